/- A whole function: from a run of its typed body to its contract. -/
import Derived.Test.YtplfalnldkbliaaLvCode
namespace Go.Proofs.LV
open Go Go.RowKit
set_option linter.unusedVariables false
set_option linter.unusedSimpArgs false

/-- a result variable -/
def resVar (P : Program) (σ : Env) : ResultVar → AV
  | .tmp t => σ.getD t .any
  | .cell t ty => match σ.getD t .any with
    | .bx _ cells => if isRowT P ty = true ∧ (P.info? ty).map (·.size) = some cells.length then .agg cells else .any
    | _ => .any
def resOut (P : Program) (rs : List ResultVar) (σ : Env) : AV :=
  match rs with
  | [x] => resVar P σ x
  | xs => .tup (xs.map (resVar P σ))

mutual
/-- the objects of a result, numbered anew -/
def AV.ren (ns : List Nat) : AV → AV
  | .sl (.own n) off xs => if ns.contains n then .sl (.own (ns.idxOf n)) off xs else .any
  | .agg cells => .agg (AV.renL ns cells)
  | .tup xs => .tup (AV.renL ns xs)
  | .bx _ _ => .any
  | .ad _ _ _ => .any
  | .fn _ _ => .any
  | v => v
def AV.renL (ns : List Nat) : List AV → List AV
  | [] => []
  | x :: r => AV.ren ns x :: AV.renL ns r
end

def Gh.ren (G : Gh) (ns : List Nat) : Gh where
  β := fun j => match ns[j]? with | some n => G.β n | none => none
  act := fun j => match ns[j]? with | some n => G.act n | none => False
  imm := G.imm
  π := G.π

theorem nodup_inj : ∀ {ns : List Nat} {i j n : Nat}, ns.Nodup → ns[i]? = some n → ns[j]? = some n → i = j
  | [], i, j, n, _, h, _ => by simp at h
  | m :: r, 0, 0, n, _, _, _ => rfl
  | m :: r, 0, j + 1, n, hn, h1, h2 => by
    simp at h1 h2; subst h1
    exact absurd (List.mem_of_getElem? h2) (List.nodup_cons.1 hn).1
  | m :: r, i + 1, 0, n, hn, h1, h2 => by
    simp at h1 h2; subst h2
    exact absurd (List.mem_of_getElem? h1) (List.nodup_cons.1 hn).1
  | m :: r, i + 1, j + 1, n, hn, h1, h2 => by
    simp at h1 h2
    exact congrArg (· + 1) (nodup_inj (List.nodup_cons.1 hn).2 h1 h2)

section
variable {P : Program} {C : Ctx} {G : Gh} {w : World}

theorem ren_simG (hs : SimG C G w) {ns : List Nat} (hn : ns.Nodup) : SimG C (G.ren ns) w := by
  refine ⟨hs.kept, ?_, ?_, hs.imms, hs.pars, hs.ml, hs.pi, hs.imI⟩
  · intro j b o ha hb
    simp only [Gh.ren] at ha hb
    split at ha
    · rename_i n hj; rw [hj] at hb; exact hs.names n b o ha hb
    · exact ha.elim
  · intro j j' b o b' o' ha ha' hne hb hb'
    simp only [Gh.ren] at ha ha' hb hb'
    split at ha
    · rename_i n hj
      split at ha'
      · rename_i n' hj'
        rw [hj] at hb; rw [hj'] at hb'
        refine hs.dist n n' b o b' o' ha ha' (fun e => hne ?_) hb hb'
        subst e
        exact nodup_inj hn hj hj'
      · exact ha'.elim
    · exact ha.elim

theorem ok_ren {ns : List Nat} {xs : Cont} {j : Nat} {u : Value} (h : xs.ok G w j u) : xs.ok (G.ren ns) w j u :=
  Cont.ok.mono ⟨fun b o h => ⟨h, rfl⟩, fun h => h⟩ h

mutual
theorem VR.ren {ns : List Nat} : ∀ (x : AV) (v : Value), VR G w x v → VR (G.ren ns) w (x.ren ns) v
  | .any, v, _ => by simp [AV.ren, VR]
  | .b c, v, h => by simpa [AV.ren, VR] using h
  | .i k c, v, h => by simpa [AV.ren, VR] using h
  | .f k c, v, h => by simpa [AV.ren, VR] using h
  | .c k c d, v, h => by simpa [AV.ren, VR] using h
  | .bx g cells, v, h => by simp [AV.ren, VR]
  | .ad g i x, v, h => by simp [AV.ren, VR]
  | .fn f cells, v, h => by simp [AV.ren, VR]
  | .agg cells, v, h => by
    simp only [VR] at h; obtain ⟨vs, rfl, hv⟩ := h
    simp only [AV.ren, VR]; exact ⟨vs, rfl, VL.ren cells vs.toList hv⟩
  | .tup cells, v, h => by
    simp only [VR] at h; obtain ⟨vs, rfl, hv⟩ := h
    simp only [AV.ren, VR]; exact ⟨vs, rfl, VL.ren cells vs.toList hv⟩
  | .sl .imm off xs, v, h => by
    simp only [AV.ren, VR] at h ⊢
    exact SRow.mono ⟨fun b o h => ⟨h, rfl⟩, fun h => h⟩ (fun _ _ _ h => ok_ren h) h
  | .sl (.par p) off xs, v, h => by
    simp only [AV.ren, VR] at h ⊢
    exact SRow.mono ⟨fun b o h => ⟨h, rfl⟩, fun h => h⟩ (fun _ _ _ h => ok_ren h) h
  | .sl (.own n) off xs, v, h => by
    simp only [AV.ren]
    split
    · rename_i hc
      have hmem : n ∈ ns := by simpa using hc
      have hget : ns[ns.idxOf n]? = some n := by
        rw [List.getElem?_eq_getElem (List.idxOf_lt_length_iff.2 hmem), List.getElem_idxOf]
      simp only [VR] at h ⊢
      rcases h with ⟨b, o, cap, rfl, ⟨ha, hb⟩, hn, hm, hcs, hsp⟩ | ⟨hn, ha, hv⟩
      · refine .inl ⟨b, o, cap, rfl, ⟨by simp only [Gh.ren, hget]; exact ha, by simp only [Gh.ren, hget]; exact hb⟩, hn, hm, fun j hj => ?_, hsp⟩
        obtain ⟨u, hu, hok⟩ := hcs j hj
        exact ⟨u, hu, ok_ren hok⟩
      · refine .inr ⟨hn, ha, ?_⟩
        show (G.ren ns).act _
        simp only [Gh.ren, hget]; exact hv
    · simp [VR]
theorem VL.ren {ns : List Nat} : ∀ (xs : List AV) (vs : List Value), VL G w xs vs → VL (G.ren ns) w (AV.renL ns xs) vs
  | [], vs, h => by simpa [AV.renL, VL] using h
  | x :: r, vs, h => by
    simp only [VL] at h; obtain ⟨u, us, rfl, hx, hr⟩ := h
    simp only [AV.renL, VL]; exact ⟨u, us, rfl, VR.ren x u hx, VL.ren r us hr⟩
end

/-- can the variable be read? -/
def resOk (P : Program) (σ : Env) : ResultVar → Bool
  | .tmp _ => true
  | .cell t ty => match σ.getD t .any with
    | .bx _ cells => isRowT P ty && (P.info? ty).map (·.size) == some cells.length
    | _ => false

def readVar (tmps : Array Value) : ResultVar → Sem Value
  | .tmp t => pure (tmps.getD t undef)
  | .cell a t => do loadVar t (← asAddr (tmps.getD a undef))

theorem readVar_ok {σ : Env} {a : Act} (hs : Sim C G σ a w) {x : ResultVar} (h : resOk P σ x = true) : ∃ v, (readVar a.tmps x).run P w = .ok v w ∧ VR G w (resVar P σ x) v := by
  cases x with
  | tmp t => exact ⟨_, rfl, hs.ev t⟩
  | cell t ty =>
    have hv := hs.ev t
    simp only [resOk, resVar] at h ⊢
    split at h
    · rename_i g cells hg
      rw [hg] at hv
      simp only [Bool.and_eq_true, beq_iff_eq] at h
      obtain ⟨b, o, hp, hat, hc⟩ := hv
      obtain ⟨us, hlen, hrg, hvl⟩ := cl_list hc
      cases hd : P.underlying ty with
      | none => unfold isRowT at h; simp [hd] at h
      | some d =>
        have hrow : d.isRow = true := by
          have := h.1; unfold isRowT at this; rw [hd] at this; cases d <;> simp_all
        have hl := run_loadVar_mid (P := P) w b o ty us d hrg hd hrow (by rw [h.2, hlen])
        refine ⟨.agg us.toArray, ?_, ?_⟩
        · simp only [readVar, hp]
          simp [asAddr, hl]
        · simp only [h.1, h.2, and_self, if_true]
          exact ⟨us.toArray, rfl, by simpa using hvl⟩
    · cases h

theorem results_eq (fn : Func) (tmps : Array Value) : results fn tmps = (do
    let vs ← fn.results.mapM (readVar tmps)
    pure (if h : vs.size = 1 then vs[0] else .tuple vs)) := by
  unfold results
  congr 1

theorem results_ok {σ : Env} {a : Act} (hs : Sim C G σ a w) {fn : Func} {rs : List ResultVar} (hr : fn.results = rs.toArray) (hl : 1 ≤ rs.length ∧ rs.length ≤ 4) (hok : rs.all (resOk P σ) = true) :
    ∃ v, (results fn a.tmps).run P w = .ok v w ∧ VR G w (resOut P rs σ) v := by
  rw [results_eq, hr]
  match rs, hl, hok with
  | [x], _, hok =>
    obtain ⟨v, hv, hx⟩ := readVar_ok (P := P) hs (x := x) (by simpa using hok)
    exact ⟨v, by simp [hv], hx⟩
  | [x, y], _, hok =>
    simp at hok
    obtain ⟨v, hv, hx⟩ := readVar_ok (P := P) hs (x := x) hok.1
    obtain ⟨v2, hv2, hy⟩ := readVar_ok (P := P) hs (x := y) hok.2
    exact ⟨.tuple #[v, v2], by simp [hv, hv2], ⟨#[v, v2], rfl, v, [v2], rfl, hx, v2, [], rfl, hy, rfl⟩⟩
  | [x, y, z], _, hok =>
    simp at hok
    obtain ⟨v, hv, hx⟩ := readVar_ok (P := P) hs (x := x) hok.1
    obtain ⟨v2, hv2, hy⟩ := readVar_ok (P := P) hs (x := y) hok.2.1
    obtain ⟨v3, hv3, hz⟩ := readVar_ok (P := P) hs (x := z) hok.2.2
    exact ⟨.tuple #[v, v2, v3], by simp [hv, hv2, hv3], ⟨#[v, v2, v3], rfl, v, [v2, v3], rfl, hx, v2, [v3], rfl, hy, v3, [], rfl, hz, rfl⟩⟩
  | [x, y, z, u], _, hok =>
    simp at hok
    obtain ⟨v, hv, hx⟩ := readVar_ok (P := P) hs (x := x) hok.1
    obtain ⟨v2, hv2, hy⟩ := readVar_ok (P := P) hs (x := y) hok.2.1
    obtain ⟨v3, hv3, hz⟩ := readVar_ok (P := P) hs (x := z) hok.2.2.1
    obtain ⟨v4, hv4, hu⟩ := readVar_ok (P := P) hs (x := u) hok.2.2.2
    exact ⟨.tuple #[v, v2, v3, v4], by simp [hv, hv2, hv3, hv4], ⟨#[v, v2, v3, v4], rfl, v, [v2, v3, v4], rfl, hx, v2, [v3, v4], rfl, hy, v3, [v4], rfl, hz, v4, [], rfl, hu, rfl⟩⟩
  | [], h, _ => simp at h
  | _ :: _ :: _ :: _ :: _ :: _, h, _ => simp at h

/-- the environment at the function's door -/
def startEnv (n : Nat) (args : List AV) : Env := args ++ List.replicate (n - args.length) .any

theorem start_sim {I : Nat → Prop} {π : List Nat → Option (Nat × Nat)} {args : List AV} {vs : Array Value} (hI : ∀ b, I b → b < w.heap.size) (hπ : ∀ p b o, π p = some (b, o) → b < w.heap.size) (hv : VL (argGh I π) w args vs.toList) (n : Nat) :
    Sim ⟨w.heap.size, w, fun _ => False, π, I⟩ (argGh I π) (startEnv n args) { tmps := vs ++ Array.replicate (n - vs.size) undef, defers := [] } w := by
  have hl : vs.size = args.length := by have := vl_len hv; simpa using this
  refine ⟨⟨⟨rfl, rfl, rfl, Nat.le_refl _, Nat.le_refl _, fun _ _ _ => rfl⟩, fun n b o h => h.elim, fun n m b o b' o' h => h.elim, fun b h => ⟨hI b h, fun h => h⟩, fun p b o h => ⟨hπ p b o h, fun h => h⟩, fun b h => h.elim, rfl, fun b h => .inl h⟩, rfl, by simp [startEnv, hl], fun s hs => ?_⟩
  rcases Nat.lt_or_ge s args.length with hlt | hge
  · obtain ⟨u, hu, hx⟩ := vl_get (j := s) (x := args[s]) hv (by simp [hlt])
    have h1 : (startEnv n args).getD s .any = args[s] := by simp [startEnv, List.getD, List.getElem?_append_left hlt, hlt]
    have h2 : (vs ++ Array.replicate (n - vs.size) undef).getD s undef = u := by
      have : vs[s]? = some u := by simpa using hu
      have hs' : s < vs.size := by omega
      simp [Array.getElem?_append_left hs', this]
    show VR _ _ _ ((vs ++ Array.replicate (n - vs.size) undef).getD s undef)
    rw [h1, h2]; exact hx
  · have h1 : (startEnv n args).getD s .any = .any := by
      simp only [startEnv, List.getD, List.getElem?_append_right hge, List.getElem?_replicate]
      split <;> rfl
    rw [h1]; trivial

/-- FROM A RUN OF THE BODY TO THE CONTRACT -/
theorem vcall_of_exec {f : FuncId} {fn : Func} {c0 : Code} {vc : VCode} {ps : List Nat} {args : List AV} {rs : List ResultVar} {e : Ex} {σ' : Env} (ns : List Nat) {r : AV}
    (hf : P.funcs[f]? = some fn) (hb : fn.body = some c0) (hc : resC P c0 = some vc) (hrs : fn.results = rs.toArray) (hlen : 1 ≤ rs.length ∧ rs.length ≤ 4)
    (henter : ∀ (vs : Array Value) (w : World), (callFunc f vs).run P w = .ok (.enter f vs) w) (hns : ns.Nodup)
    (he : e = .normal ∨ e = .ret) (hrun : Exec (VCall P) ps vc (startEnv fn.ntmps args) e σ') (hok : rs.all (resOk P σ') = true) (hr : (resOut P rs σ').ren ns = r) : VCall P f args r := by
  refine ⟨henter, fun w I π vs hI hπ hv => ?_⟩
  refine calls_of_wp hf hb ?_
  have hs := start_sim hI hπ hv fn.ntmps
  refine (exec_ok (C := ⟨w.heap.size, w, fun _ => False, π, I⟩) (fun _ _ _ h => h) hrun).1 c0 hc hs (fun a' w' G' hs' => ?_)
  obtain ⟨v, hres, hvr⟩ := results_ok hs' hrs hlen hok
  have fin : bodyPost P fn (fun e w' => ∃ v G', e = .returned v ∧ SimG ⟨w.heap.size, w, fun _ => False, π, I⟩ G' w' ∧ VR G' w' r v) .ret a' w' := by
    refine ⟨hs'.defers, v, hres, v, G'.ren ns, rfl, ren_simG hs'.g hns, ?_⟩
    rw [← hr]; exact VR.ren _ _ hvr
  rcases he with rfl | rfl
  · exact fin
  · exact fin
end
end Go.Proofs.LV
