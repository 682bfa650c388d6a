/- Texts that belong together. -/
import Derived.Test.YtdffgjembkanoaaLvEval3
namespace Go.Proofs.LV
open Go Go.RowKit
set_option linter.unusedVariables false
set_option linter.unusedSimpArgs false

section
variable {P : Program} {C : Ctx} {G : Gh} {w : World}

theorem partsInOrder_ok : ∀ (n : Nat) (ps : List (Nat × Operand)), partsInOrder n ps = true → ∀ (j : Nat) (p : Nat × Operand), ps[j]? = some p → p.1 = n + j
  | n, [], _, j, p, h => by simp at h
  | n, (i, x) :: r, h, 0, p, hj => by simp [partsInOrder] at h hj; subst hj; exact h.1
  | n, (i, x) :: r, h, j + 1, p, hj => by
    simp [partsInOrder] at h hj
    have := partsInOrder_ok (n + 1) r h.2 j p hj
    omega

variable {dst : Option Tmp} {type : TypeId} {pos : String} {after : Array Edge} {guard : Option (Nat × Bool)} {kd : K} {xs : List (TypeId × Operand)} {a : Act} {vs : List AV} {v : AV} {ns : List Nat} {ob : Prop} {d : Nat}

/-- what is to be shown of an operation -/
def OpOk (P : Program) (C : Ctx) (G : Gh) (w : World) (o : Oper) (a : Act) : Prop :=
  ∀ (kd : K) (xs : List (TypeId × Operand)) (vs : List AV) (v : AV) (ns : List Nat) (ob : Prop) (d : Nat), resK P o = some (kd, xs) → VL G w vs (xs.map fun p => a.eval p.2) → evalK d kd vs = some (v, ns, ob) → ob → Does P C G w (execOp a.eval o) v ns

theorem op_move (hs : SimG C G w) (x : Operand) : OpOk P C G w ⟨dst, .move x, type, pos, after, guard⟩ a := by
  intro kd xs vs v ns ob d hr hv he hob
  simp only [resK] at hr
  split at hr
  · split at hr <;> cases hr
    exact does_nilsl (by simp [execOp, Act.eval]) hs he
  · cases hr
    exact does_mv hs (by simp [execOp]) hv he
theorem op_assign (hs : SimG C G w) (x : Operand) : OpOk P C G w ⟨dst, .assign x, type, pos, after, guard⟩ a := by
  intro kd xs vs v ns ob d hr hv he hob
  simp only [resK] at hr
  split at hr
  · split at hr <;> cases hr
    exact does_nilsl (by simp [execOp, Act.eval]) hs he
  · cases hr
    exact does_mv hs (by simp [execOp]) hv he
theorem op_pick (hs : SimG C G w) (c x y : Operand) : OpOk P C G w ⟨dst, .pick c x y, type, pos, after, guard⟩ a := by
  intro kd xs vs v ns ob d hr hv he hob
  simp only [resK] at hr; cases hr
  exact does_pick hs hv he
theorem resEql_inv {op : BinOp} {t : TypeId} {x y : Operand} {kd : K} {xs : List (TypeId × Operand)} (h : resEql P op t x y = some (kd, xs)) :
    op = .eql ∧ y = .const (.slice none 0 0) ∧ ∃ e, sliceT P t = some e ∧ kd = .isnil ∧ xs = [(t, x)] := by
  unfold resEql at h
  split at h
  · rename_i e hte
    cases h; exact ⟨rfl, rfl, e, hte, rfl, rfl⟩
  · cases h
theorem op_binOp (hs : SimG C G w) (op : BinOp) (t : TypeId) (x y : Operand) (u : TypeId) : OpOk P C G w ⟨dst, .binOp op t x y u, type, pos, after, guard⟩ a := by
  intro kd xs vs v ns ob d hr hv he hob
  simp only [resK] at hr
  have key : (if scalarT P t then some (K.bin op, [(t, x), (u, y)]) else if boolT P t then some (K.binb op, [(t, x), (u, y)]) else resEql P op t x y) = some (kd, xs) → Does P C G w (execOp a.eval ⟨dst, .binOp op t x y u, type, pos, after, guard⟩) v ns := by
    intro hr
    split at hr
    · cases hr; exact does_bin (u := u) hs hv he hob
    · split at hr
      · cases hr
        rename_i hbt
        have ht : P.underlying t = some .bool := by unfold boolT at hbt; split at hbt <;> simp_all
        exact does_binb (u := u) hs ht hv he
      · obtain ⟨rfl, rfl, e, hte, rfl, rfl⟩ := resEql_inv hr
        exact does_isnil hs (sliceT_ok hte).1 hv he hob
  split at hr
  · rw [if_pos rfl] at hr; cases hr
  · rw [if_neg (by simp)] at hr
    exact key hr
theorem op_unOp (hs : SimG C G w) (op : UnOp) (t : TypeId) (x : Operand) : OpOk P C G w ⟨dst, .unOp op t x, type, pos, after, guard⟩ a := by
  intro kd xs vs v ns ob d hr hv he hob
  cases op <;> simp only [resK] at hr <;> cases hr
  · exact does_neg hs hv he
  · exact does_not hs hv he
theorem op_convert (hs : SimG C G w) (src dst' : TypeId) (x : Operand) : OpOk P C G w ⟨dst, .convert src dst' x, type, pos, after, guard⟩ a := by
  intro kd xs vs v ns ob d hr hv he hob
  simp only [resK] at hr
  split at hr <;> cases hr
  · rename_i h1 h2; exact does_convI hs (by rw [h1]; rfl) h2 hv he hob
  · rename_i h1 h2; exact does_convF hs (by rw [h1]; rfl) h2 hv he hob
  · rename_i h1 h2; exact does_convC hs (by rw [h1]; rfl) h2 hv he hob
theorem op_indexAddr (hs : SimG C G w) (t : TypeId) (x i : Operand) : OpOk P C G w ⟨dst, .indexAddr t x i, type, pos, after, guard⟩ a := by
  intro kd xs vs v ns ob d hr hv he hob
  simp only [resK] at hr
  split at hr <;> cases hr
  rename_i e hte
  exact does_iaddr hs hte hv he hob
theorem op_fieldAddr (hs : SimG C G w) (s : TypeId) (x : Operand) (f : Nat) : OpOk P C G w ⟨dst, .fieldAddr s x f, type, pos, after, guard⟩ a := by
  intro kd xs vs v ns ob d hr hv he hob
  simp only [resK] at hr
  split at hr
  · rename_i fields hu
    split at hr
    · rename_i fd hf
      split at hr <;> cases hr
      rename_i h1
      exact does_faddr hs hu hf h1 hv he
    · cases hr
  · cases hr
theorem op_load (hs : SimG C G w) (t : TypeId) (x : Operand) : OpOk P C G w ⟨dst, .load t x, type, pos, after, guard⟩ a := by
  intro kd xs vs v ns ob d hr hv he hob
  simp only [resK] at hr
  split at hr
  · rename_i dd i hd hi
    split at hr <;> cases hr
    · rename_i hrow
      have : dd.isRow = true := by unfold isRowT at hrow; rw [hd] at hrow; cases dd <;> simp_all
      exact does_loadN hs hd this (by rw [hi]; rfl) hv he
    · rename_i hrow
      exact does_load hs hd (by simpa using hrow) hv he
  · cases hr
theorem op_store (t : TypeId) (x y : Operand) : OpOk P C G w ⟨dst, .store t x y, type, pos, after, guard⟩ a := by
  intro kd xs vs v ns ob d hr hv he hob
  simp only [resK] at hr
  split at hr
  · split at hr
    · cases hr; simp [evalK] at he
    · split at hr <;> cases hr; simp [evalK] at he
  · cases hr
theorem op_alloc (hs : SimG C G w) (e : TypeId) : OpOk P C G w ⟨dst, .alloc e, type, pos, after, guard⟩ a := by
  intro kd xs vs v ns ob d hr hv he hob
  simp only [resK] at hr
  split at hr
  · rename_i i hi
    split at hr
    · rename_i z hz
      split at hr <;> cases hr
      rename_i cs hcs
      exact does_alloc hs hi hz hcs he
    · cases hr
  · cases hr
theorem op_box (hs : SimG C G w) (e : TypeId) (x : Operand) : OpOk P C G w ⟨dst, .box e x, type, pos, after, guard⟩ a := by
  intro kd xs vs v ns ob d hr hv he hob
  simp only [resK] at hr
  split at hr <;> cases hr
  · exact does_boxN hs hv he hob
  · exact does_box hs hv he hob
theorem op_build (hs : SimG C G w) (t : TypeId) (parts : Array (Nat × Operand)) : OpOk P C G w ⟨dst, .build t parts, type, pos, after, guard⟩ a := by
  intro kd xs vs v ns ob d hr hv he hob
  simp only [resK] at hr
  split at hr
  · rename_i fields it hu hi
    split at hr
    · rename_i z hz
      split at hr
      · rename_i cs ps hc hp
        split at hr <;> cases hr
        rename_i hf
        exact does_build hs hu hi hz hc hp hf hv he
      · cases hr
    · cases hr
  · rename_i n e it hu hi
    split at hr
    · rename_i z hz
      split at hr
      · rename_i cs hc
        split at hr <;> cases hr
        rename_i h1
        exact does_buildA hs hu hi hz hc h1 hv he
      · cases hr
    · cases hr
  · cases hr
theorem op_index (hs : SimG C G w) (t : TypeId) (x i : Operand) : OpOk P C G w ⟨dst, .index t x i, type, pos, after, guard⟩ a := by
  intro kd xs vs v ns ob d hr hv he hob
  simp only [resK] at hr
  split at hr
  · rename_i n e hu
    split at hr <;> cases hr
    rename_i hc
    exact does_aidx hs hu hc.1 hc.2.1 hc.2.2 hv he hob
  · cases hr
theorem op_buildSlice (hs : SimG C G w) (t : TypeId) (n : Nat) (parts : Array (Nat × Operand)) : OpOk P C G w ⟨dst, .buildSlice t n parts, type, pos, after, guard⟩ a := by
  intro kd xs vs v ns ob d hr hv he hob
  simp only [resK] at hr
  split at hr
  · rename_i e c hte hce
    split at hr <;> cases hr
    rename_i hcond
    obtain ⟨rfl, hn, hord, hz⟩ := hcond
    obtain ⟨hu, h1⟩ := sliceT_ok hte
    cases hi : P.info? e with
    | none => simp [hi] at hz
    | some i =>
      cases hzv : i.zero with
      | none => simp [hi, hzv] at hz
      | some z =>
        have hsz : i.size = 1 := by unfold size1 at h1; simp [hi] at h1; exact h1
        have hmap : (parts.toList.map fun p => ((e, p.2) : TypeId × Operand)).map (fun p => a.eval p.2) = (parts.map fun (i, x) => (i, a.eval x)).toList.map (·.2) := by
          simp [List.map_map, Function.comp_def]
        have hlen : ((parts.toList.map fun p => ((e, p.2) : TypeId × Operand)).map (fun p => a.eval p.2)).length = parts.size := by simp
        have := does_lit (parts := parts.map fun (i, x) => (i, a.eval x)) (us := (parts.toList.map fun p => ((e, p.2) : TypeId × Operand)).map (fun p => a.eval p.2)) hs hu hi hsz hzv (by rw [hlen]; exact hn) hmap.symm
          (fun j p hj => by
            simp only [Array.toList_map, List.getElem?_map, Option.map_eq_some_iff] at hj
            obtain ⟨q, hq, rfl⟩ := hj
            simpa using partsInOrder_ok 0 parts.toList hord j q hq) (sub00_len c) hv he
        rw [hlen] at this
        exact this
  · cases hr
theorem op_makeSlice (hs : SimG C G w) (t : TypeId) (l c : Operand) : OpOk P C G w ⟨dst, .makeSlice t l c, type, pos, after, guard⟩ a := by
  intro kd xs vs v ns ob d hr hv he hob
  simp only [resK] at hr
  split at hr
  · rename_i e hte
    split at hr
    · rename_i i hi
      split at hr
      · rename_i z hz
        split at hr
        · rename_i y hy
          split at hr <;> cases hr
          rename_i hcond
          obtain ⟨hu, h1⟩ := sliceT_ok hte
          have hsz : i.size = 1 := by unfold size1 at h1; simp [hi] at h1; exact h1
          exact does_mksl hs hu hi hsz hz hcond.2 hcond.1 hy hv he hob
        · cases hr
      · cases hr
    · cases hr
  · cases hr
theorem op_slice (hs : SimG C G w) (t : TypeId) (x : Operand) (lo hi mx : Option Operand) : OpOk P C G w ⟨dst, .slice t x lo hi mx, type, pos, after, guard⟩ a := by
  intro kd xs vs v ns ob d hr hv he hob
  cases hte : sliceT P t with
  | none => simp [resK, hte] at hr
  | some e =>
    cases lo <;> cases hi <;> cases mx <;> simp only [resK, hte] at hr <;> cases hr
    · exact does_slice (lo := none) (hi := some _) hs hte (.inr (.inr ⟨rfl, rfl, _, rfl, rfl, rfl⟩)) hv he hob
    · exact does_slice3 hs hte hv he hob
    · exact does_slice (lo := some _) (hi := none) hs hte (.inr (.inl ⟨rfl, rfl, _, rfl, rfl, rfl⟩)) hv he hob
    · exact does_slice (lo := some _) (hi := some _) hs hte (.inl ⟨rfl, rfl, _, _, rfl, rfl, rfl⟩) hv he hob
theorem op_extract (hs : SimG C G w) (t : Operand) (j : Nat) : OpOk P C G w ⟨dst, .extract t j, type, pos, after, guard⟩ a := by
  intro kd xs vs v ns ob d hr hv he hob
  simp only [resK] at hr; cases hr
  exact does_extract hs hv he
theorem op_nilCheck (hs : SimG C G w) (x : Operand) : OpOk P C G w ⟨dst, .nilCheck x, type, pos, after, guard⟩ a := by
  intro kd xs vs v ns ob d hr hv he hob
  simp only [resK] at hr; cases hr
  exact does_nilck hs rfl rfl hv he
theorem op_makeFunc (hs : SimG C G w) (fn : Fn) (first cap : Array Operand) : OpOk P C G w ⟨dst, .makeFunc fn first cap, type, pos, after, guard⟩ a := by
  intro kd xs vs v ns ob d hr hv he hob
  cases fn with
  | func f =>
    simp only [resK] at hr
    split at hr <;> cases hr
    rename_i hf
    simp only [evalK] at he; cases he
    have hfe : first = #[] := Array.eq_empty_of_size_eq_zero hf
    subst hfe
    have := does_mkfn (P := P) (f := f) (us := cap.map a.eval) hs (vs := vs) (by simpa [List.map_map, Function.comp_def] using hv)
    simpa [execOp] using this
  | _ => simp [resK] at hr

theorem Does.congr {m m' : Sem Next} {v : AV} {ns : List Nat} (h : m.run P w = m'.run P w) (h' : Does P C G w m' v ns) : Does P C G w m v ns := by
  obtain ⟨u, w', G', hr, ok, hv⟩ := h'
  exact ⟨u, w', G', h.trans hr, ok, hv⟩

theorem run_callB {b : Builtin} {args : Array Operand} {ts : Array TypeId} (m : Sem Value) (hb : ∀ consts, builtin b ts type consts (args.map a.eval) = (do pure (.value (← m)))) :
    (execOp a.eval ⟨dst, .call ⟨.builtin b, args, ts⟩, type, pos, after, guard⟩).run P w = (do pure (.value (← m)) : Sem Next).run P w := by
  simp [execOp, resolve, invoke, hb]

theorem arr_of_list {α : Type} {xs : Array α} {l : List α} (h : xs.toList = l) : xs = l.toArray := by cases xs; simp_all

theorem op_call (hs : SimG C G w) (c : Call) : OpOk P C G w ⟨dst, .call c, type, pos, after, guard⟩ a := by
  intro kd xs vs v ns ob d hr hv he hob
  obtain ⟨callee, args, ts⟩ := c
  simp only [resK] at hr
  split at hr
  · split at hr <;> cases hr; simp [evalK] at he
  · split at hr <;> cases hr; simp [evalK] at he
  · rename_i x hargs
    have ea := arr_of_list hargs; subst ea
    split at hr
    · rename_i t hts
      have et := arr_of_list hts; subst et
      split at hr <;> cases hr
      rename_i e hte
      refine Does.congr (run_callB _ (fun _ => by simp [builtin]; rfl)) ?_
      exact does_len (ty := type) hs (sliceT_ok hte).1 hv he
    · cases hr
  · rename_i x y hargs
    have ea := arr_of_list hargs; subst ea
    split at hr
    · rename_i t u hts
      have et := arr_of_list hts; subst et
      split at hr
      · rename_i htu; subst htu
        split at hr
        · rename_i e hte
          split at hr
          · rename_i i hi
            split at hr <;> cases hr
            rename_i hcond
            obtain ⟨hb, hz⟩ := hcond
            obtain ⟨hu, h1⟩ := sliceT_ok hte
            have hsz : i.size = 1 := by unfold size1 at h1; simp [hi] at h1; exact h1
            cases hzv : i.zero with
            | none => simp [hzv] at hz
            | some z =>
              refine Does.congr (run_callB _ (fun _ => by simp [builtin]; rfl)) ?_
              exact does_app (ty := type) hu hi hsz hzv (by simpa [hzv] using hz) hb hs hv he hob
          · cases hr
        · cases hr
      · cases hr
    · cases hr
  · (repeat' split at hr) <;> cases hr
    simp [evalK] at he
  · rename_i x y hargs
    have ea := arr_of_list hargs; subst ea
    split at hr <;> cases hr
    rename_i t u hts
    have et := arr_of_list hts; subst et
    refine Does.congr (run_callB _ (fun _ => by simp [builtin]; rfl)) ?_
    exact does_max hs hv he
  · rename_i x y hargs
    have ea := arr_of_list hargs; subst ea
    split at hr <;> cases hr
    rename_i t u hts
    have et := arr_of_list hts; subst et
    refine Does.congr (run_callB _ (fun _ => by simp [builtin]; rfl)) ?_
    exact does_min hs hv he
  · rename_i x y hargs
    have ea := arr_of_list hargs; subst ea
    split at hr <;> cases hr
    rename_i t u hts
    have et := arr_of_list hts; subst et
    refine Does.congr (run_callB _ (fun _ => by simp [builtin]; rfl)) ?_
    exact does_cplx hs hv he
  · rename_i x hargs
    have ea := arr_of_list hargs; subst ea
    split at hr <;> cases hr
    rename_i t hts
    have et := arr_of_list hts; subst et
    refine Does.congr (run_callB _ (fun _ => by simp [builtin]; rfl)) ?_
    exact does_re hs hv he
  · rename_i x hargs
    have ea := arr_of_list hargs; subst ea
    split at hr <;> cases hr
    rename_i t hts
    have et := arr_of_list hts; subst et
    refine Does.congr (run_callB _ (fun _ => by simp [builtin]; rfl)) ?_
    exact does_im hs hv he
  · cases hr

theorem does_op (hs : SimG C G w) (o : Oper) (a : Act) : OpOk P C G w o a := by
  obtain ⟨dst, op, type, pos, after, guard⟩ := o
  have dead : (∀ (kd : K) (xs : List (TypeId × Operand)), resK P ⟨dst, op, type, pos, after, guard⟩ ≠ some (kd, xs)) → OpOk P C G w ⟨dst, op, type, pos, after, guard⟩ a :=
    fun h kd xs vs v ns ob d hr => absurd hr (h kd xs)
  cases op with
  | move x => exact op_move hs x
  | assign x => exact op_assign hs x
  | pick c x y => exact op_pick hs c x y
  | binOp op t x y u => exact op_binOp hs op t x y u
  | unOp op t x => exact op_unOp hs op t x
  | convert s t x => exact op_convert hs s t x
  | indexAddr t x i => exact op_indexAddr hs t x i
  | fieldAddr s x f => exact op_fieldAddr hs s x f
  | load t x => exact op_load hs t x
  | store t x y => exact op_store t x y
  | alloc e => exact op_alloc hs e
  | box e x => exact op_box hs e x
  | build t ps => exact op_build hs t ps
  | index t x i => exact op_index hs t x i
  | buildSlice t n ps => exact op_buildSlice hs t n ps
  | makeSlice t l c => exact op_makeSlice hs t l c
  | slice t x lo hi mx => exact op_slice hs t x lo hi mx
  | extract t j => exact op_extract hs t j
  | nilCheck x => exact op_nilCheck hs x
  | makeFunc fn first cap => exact op_makeFunc hs fn first cap
  | call c => exact op_call hs c
  | _ => exact dead (fun kd xs => by simp [resK])
theorem resK_lit {o : Oper} {e : Cont} (h : resK P o = some (.lit true e, [])) : ∃ t el i z, o.op = .buildSlice t 0 #[] ∧ P.underlying t = some (.slice el) ∧ P.info? el = some i ∧ i.size = 1 ∧ i.zero = some z := by
  obtain ⟨dst, op, type, pos, after, guard⟩ := o
  cases op <;> simp only [resK] at h
  case buildSlice t n parts =>
    split at h
    · rename_i el c hte hce
      split at h
      · rename_i hcond
        obtain ⟨hn, _, _, hz⟩ := hcond
        simp only [Option.some.injEq, Prod.mk.injEq, List.map_eq_nil_iff] at h
        have hp : parts = #[] := by cases parts; simp_all
        subst hp
        obtain ⟨hu, h1⟩ := sliceT_ok hte
        cases hi : P.info? el with
        | none => simp [hi] at hz
        | some i =>
          cases hzv : i.zero with
          | none => simp [hi, hzv] at hz
          | some z =>
            refine ⟨t, el, i, z, by rw [hn]; rfl, hu, hi, ?_, hzv⟩
            unfold size1 at h1; simp [hi] at h1; exact h1
      · cases h
    · cases h
  case binOp op t x y u =>
    (repeat' split at h) <;> first | (have := resEql_kd h; cases this; done) | cases h | simp at h
  all_goals (repeat' split at h) <;> simp_all
theorem does_opF (hs : SimG C G w) {o : Oper} {ops : Array Oper} {a : Act} {kd : K} {xs : List (TypeId × Operand)} {vs : List AV} {v : AV} {ns : List Nat} {ob : Prop} {d : Nat} (h : resF P ops o = some (kd, xs))
    (hv : VL G w vs (xs.map fun p => a.eval p.2)) (he : evalK d kd vs = some (v, ns, ob)) (hob : ob) : Does P C G w (execOp a.eval o) v ns := by
  rcases resF_inv h with h | ⟨e, rfl, rfl, hk⟩ | ⟨rfl, hk⟩
  · exact does_op hs o a _ _ _ _ _ _ _ h hv he hob
  · obtain ⟨t, el, i, z, hop, hu, hi, hsz, hz⟩ := resK_lit hk
    have := does_lit0 (P := P) (C := C) (parts := #[]) (c := e) hs hu hi hsz hz rfl he
    simpa [execOp, hop] using this
  · refine does_op hs o a .app xs vs v ns ob d hk hv ?_ hob
    simp only [evalK] at he ⊢
    unfold eAppn at he
    split at he
    · rename_i o0 xs g p ys
      have e : Cont.app (xs.sub 0 0) ys = Cont.only xs ys := by cases xs <;> cases ys <;> simp [Cont.app, Cont.only, Cont.sub]
      unfold eApp
      simp only [e]
      exact he
    · cases he
end
end Go.Proofs.LV

namespace Go.Proofs.LV
open Go Go.RowKit
set_option linter.unusedVariables false
set_option linter.unusedSimpArgs false

/-! ### the environment behind an operation -/
theorem scrub_get (n : Nat) (σ : Env) (s : Nat) : (σ.scrub n).getD s .any = .any ∨ ((σ.scrub n).getD s .any = σ.getD s .any ∧ (σ.getD s .any).has n = false) := by
  unfold Env.scrub
  simp only [List.getD, List.getElem?_map]
  cases h : σ[s]? with
  | none => simp
  | some v =>
    simp only [Option.map_some, Option.getD_some]
    split
    · exact .inl rfl
    · exact .inr ⟨rfl, by simp_all⟩
theorem scrub_len (n : Nat) (σ : Env) : (σ.scrub n).length = σ.length := by simp [Env.scrub]
theorem scrubs_get : ∀ (ns : List Nat) (σ : Env) (s : Nat), (σ.scrubs ns).getD s .any = .any ∨ ((σ.scrubs ns).getD s .any = σ.getD s .any ∧ ∀ n, n ∈ ns → (σ.getD s .any).has n = false)
  | [], σ, s => .inr ⟨rfl, fun n h => by cases h⟩
  | n :: r, σ, s => by
    have ih := scrubs_get r (σ.scrub n) s
    show ((σ.scrub n).scrubs r).getD s .any = .any ∨ _
    rcases ih with h | ⟨h1, h2⟩
    · exact .inl h
    · rcases scrub_get n σ s with h3 | ⟨h3, h4⟩
      · exact .inl (h1.trans h3)
      · refine .inr ⟨h1.trans h3, fun m hm => ?_⟩
        rcases List.mem_cons.1 hm with rfl | hm
        · exact h4
        · rw [← h3]; exact h2 m hm
theorem scrubs_len : ∀ (ns : List Nat) (σ : Env), (σ.scrubs ns).length = σ.length
  | [], σ => rfl
  | n :: r, σ => by
    show ((σ.scrub n).scrubs r).length = _
    rw [scrubs_len r, scrub_len]

section
variable {P : Program} {C : Ctx} {G G' : Gh} {w w' : World} {σ : Env} {a : Act}

theorem Sim.after (hs : Sim C G σ a w) {ns : List Nat} (ok : StepOk C G w G' w' ns) (hh : ∀ n, n ∈ ns → n < HI) {v : AV} {u : Value} (hv : VR G' w' v u) (d : Option Nat) : Sim C G' ((σ.scrubs ns).put d v) (a.put d u) w' := by
  have base : ∀ s, VR G' w' ((σ.scrubs ns).getD s .any) (a.tmps.getD s undef) := by
    intro s
    rcases scrubs_get ns σ s with h | ⟨h1, h2⟩
    · rw [h]; simp [VR]
    · rw [h1]; exact ok.keep _ _ h2 (hs.ev s)
  have hi : ∀ n, HI ≤ n → G'.β n = C.hb n ∧ (C.ha n → G'.act n) := fun n hn =>
    have hf := ok.fix n (fun h => absurd (hh n h) (by omega))
    ⟨hf.1.trans (hs.hi n hn).1, fun h => hf.2 ((hs.hi n hn).2 h)⟩
  cases d with
  | none => exact ⟨ok.g, hs.defers, by simpa [Env.put, Act.put, scrubs_len] using hs.size, fun s _ => base s, hi⟩
  | some d =>
    refine ⟨ok.g, hs.defers, by simpa [Env.put, Act.put, scrubs_len] using hs.size, fun s hsl => ?_, hi⟩
    simp only [Env.put, Act.put, List.length_set, scrubs_len] at hsl ⊢
    by_cases hd : d = s
    · subst hd
      have h1 : ((σ.scrubs ns).set d v).getD d .any = v := by simp [List.getD, scrubs_len, hsl]
      have h2 : (a.tmps.setIfInBounds d u).getD d undef = u := by simp [Array.getD, hs.size, hsl]
      rw [h1, h2]; exact hv
    · have h1 : ((σ.scrubs ns).set d v).getD s .any = (σ.scrubs ns).getD s .any := by simp [List.getD, List.getElem?_set_ne hd]
      have h2 : (a.tmps.setIfInBounds d u).getD s undef = a.tmps.getD s undef := by
        simp [Array.getElem?_setIfInBounds_ne hd]
      rw [h1, h2]; exact base s

/-- a slot of which nothing is told any more -/
theorem Sim.forget (hs : Sim C G σ a w) (d : Option Nat) (u : Value) : Sim C G (σ.put d .any) (a.put d u) w := by
  have := hs.after (ns := []) (G' := G) (w' := w) ⟨hs.g, fun _ _ _ h => h, fun _ _ => ⟨rfl, id⟩⟩ (fun n h => nomatch h) (v := .any) (u := u) trivial d
  exact this

/-- a slot of an operation that was passed by -/
theorem Sim.skip (hs : Sim C G σ a w) (d : Option Nat) : Sim C G (σ.put d (.tup [])) (a.put d undef) w := by
  have := hs.after (ns := []) (G' := G) (w' := w) ⟨hs.g, fun _ _ _ h => h, fun _ _ => ⟨rfl, id⟩⟩ (fun n h => nomatch h) (v := .tup []) (u := undef) ⟨#[], rfl, by simp [VL]⟩ d
  exact this

/-! ### one cell of object n is written -/
structure Wrote (G : Gh) (w w' : World) (n b o j : Nat) (x : AV) (u : Value) : Prop where
  act : G.act n
  at_ : G.β n 0 = some (b, o)
  keeps : ∀ g : Tag, g.beq (.own n) = false → Keeps G G w w' g
  kn : ∀ m, m ≠ n → KeepsN G G w w' m
  cell : (w.cell? ⟨b, o + j, none⟩).isSome = true → w'.cell? ⟨b, o + j, none⟩ = some u
  other : ∀ i, i ≠ o + j → w'.cell? ⟨b, i, none⟩ = w.cell? ⟨b, i, none⟩
  val : VR G w' x u

theorem keeps_imm {n b o j : Nat} {x : AV} {u : Value} (h : Wrote G w w' n b o j x u) : Keeps G G w w' .imm := h.keeps _ rfl

theorem set_ok {j : Nat} {x : AV} {xs ys : Cont} (h : Cont.set j x xs = some ys) : ys.len = xs.len ∧ (∀ i u, i ≠ j → xs.ok G w i u → ys.ok G w i u) ∧ (∀ u, j < xs.len → VR G w x u → ys.ok G w j u) := by
  have gd : ∀ {α : Type} (l : List α) (d y : α) (i : Nat), (i ≠ j → (l.set j y).getD i d = l.getD i d) ∧ (j < l.length → (l.set j y).getD j d = y) := by
    intro α l d y i
    refine ⟨fun hi => by simp [List.getD, List.getElem?_set_ne (Ne.symm hi)], fun hj => by simp [List.getD, hj]⟩
  unfold Cont.set at h
  split at h
  case h_5 => cases h
  case h_3 =>
    cases h
    refine ⟨by simp [Cont.len], fun i u hi hx => ?_, fun u hj hx => ?_⟩
    · simp only [Cont.ok] at *; rw [(gd _ _ _ i).1 hi]; exact hx
    · simp only [Cont.ok, Cont.len] at *; rw [(gd _ _ _ 0).2 hj]; exact hx
  all_goals
    split at h <;> cases h
    rename_i hk; subst hk
    refine ⟨by simp [Cont.len], fun i u hi hx => ?_, fun u hj hx => ?_⟩
    · simp only [Cont.ok] at *; rw [(gd _ _ _ i).1 hi]; exact hx
    · simp only [Cont.ok, Cont.len] at *; rw [(gd _ _ _ 0).2 hj]; exact hx

theorem names_of_beq {g : Tag} {n : Nat} (h : g.beq (.own n) = true) : g = .own n := by
  cases g <;> simp [Tag.beq] at h; subst h; rfl
/-- cells of the written block, but for the written one -/
def CLx (G : Gh) (w : World) (b o j : Nat) : List AV → Prop
  | [] => True
  | x :: r => (o ≠ j → ∃ u, w.cell? ⟨b, o, none⟩ = some u ∧ VR G w x u) ∧ CLx G w b (o + 1) j r

theorem cl_of_clx {b j : Nat} {x : AV} {u : Value} : ∀ (cells : List AV) (o : Nat), CLx G w b o j cells → (o ≤ j → j < o + cells.length → w.cell? ⟨b, j, none⟩ = some u ∧ VR G w x u) → CL G w b o (if o ≤ j then cells.set (j - o) x else cells)
  | [], o, h, _ => by simp [CL]
  | y :: r, o, h, hu => by
    simp only [CLx] at h
    have ih := cl_of_clx (x := x) (u := u) r (o + 1) h.2 (fun h1 h2 => hu (by omega) (by simp; omega))
    by_cases hoj : o ≤ j
    · rw [if_pos hoj]
      by_cases he : o = j
      · subst he
        simp only [Nat.sub_self, List.set_cons_zero, CL]
        rw [if_neg (by omega)] at ih
        obtain ⟨h1, h2⟩ := hu (Nat.le_refl _) (by simp)
        exact ⟨⟨u, h1, h2⟩, ih⟩
      · rw [if_pos (by omega)] at ih
        rw [show j - o = (j - (o + 1)) + 1 by omega]
        simp only [List.set_cons_succ, CL]
        exact ⟨h.1 he, ih⟩
    · rw [if_neg hoj]
      rw [if_neg (by omega)] at ih
      simp only [CL]
      exact ⟨h.1 (by omega), ih⟩

mutual
theorem VR.upd {n b o j : Nat} {x : AV} {u : Value} (hw : Wrote G w w' n b o j x u) : ∀ (y : AV) (v : Value), VR G w y v → VR G w' (AV.upd (.own n) j x y) v
  | .any, v, _ => by simp [AV.upd, VR]
  | .b c, v, h => by simpa [AV.upd, VR] using h
  | .i k c, v, h => by simpa [AV.upd, VR] using h
  | .f k c, v, h => by simpa [AV.upd, VR] using h
  | .c k c d, v, h => by simpa [AV.upd, VR] using h
  | .sl g off xs, v, h => by
    simp only [AV.upd]
    cases hg : g.beq (.own n) with
    | false =>
      simp only [Bool.false_eq_true, if_false]
      simp only [VR] at h ⊢
      exact SRow.mono (hw.keeps g hg) (fun _ _ _ h => Cont.ok.mono (keeps_imm hw) h) h
    | true =>
      obtain rfl := names_of_beq hg
      simp only [if_true]
      simp only [VR] at h
      have main : ∀ ys : Cont, ys.len = xs.len → (∀ i z, i < xs.len → o + off + i ≠ o + j → xs.ok G w i z → ys.ok G w' i z) → (∀ i, i < xs.len → o + off + i = o + j → w'.cell? ⟨b, o + j, none⟩ = some u → ys.ok G w' i u) →
          VR G w' (.sl (.own n) off ys) v := by
        intro ys hl h1 h2
        simp only [VR]
        rcases h with ⟨b', o', cap, rfl, ⟨ha, hb⟩, hn, hm, hc, hsp⟩ | ⟨hn, ha, hv⟩
        · rw [hw.at_] at hb; cases hb
          rw [hl]
          refine .inl ⟨b, o, cap, rfl, ⟨hw.act, hw.at_⟩, hn, hm, fun i hi => ?_, fun i hi => ?_⟩
          · obtain ⟨z, hz, hok⟩ := hc i hi
            by_cases he : o + off + i = o + j
            · rw [he] at hz ⊢
              have hcell := hw.cell (by rw [hz]; rfl)
              exact ⟨u, hcell, h2 i hi he hcell⟩
            · exact ⟨z, by rw [hw.other _ he]; exact hz, h1 i z hi he hok⟩
          · have := hsp i hi
            by_cases he : o + off + i = o + j
            · rw [he] at this ⊢; rw [hw.cell this]; rfl
            · rw [hw.other _ he]; exact this
        · exact .inr ⟨by omega, ha, hv⟩
      by_cases hoj : off ≤ j
      · simp only [hoj, if_true]
        split
        · rename_i ys hys
          obtain ⟨hl, h1, h2⟩ := set_ok (G := G) (w := w') hys
          refine main ys hl (fun i z hi hne hok => h1 i z (by omega) (Cont.ok.mono (keeps_imm hw) hok)) (fun i hi he hcell => ?_)
          have : i = j - off := by omega
          subst this
          exact h2 u hi hw.val
        · simp [VR]
      · simp only [hoj, if_false]
        exact main xs rfl (fun i z hi hne hok => Cont.ok.mono (keeps_imm hw) hok) (fun i hi he _ => by omega)
  | .nw m lo k xss hh, v, h => by
    simp only [AV.upd]
    cases hg : (Tag.own n).names m with
    | true => simp [VR]
    | false =>
      have hm : m ≠ n := fun e => by simp [Tag.names, e] at hg
      exact VR.mono (keeps_imm hw) (fun _ => hw.keeps _ rfl) (.nw m lo k xss hh) v (fun a ha => by
        have : m = a := by simpa [AV.has] using ha
        exact hw.kn a (this ▸ hm)) h
  | .na m ix k hh y, v, h => by
    simp only [VR] at h
    obtain ⟨hho, b', o', rfl, hat, z, hz, hy⟩ := h
    have hy' := VR.upd hw y z hy
    simp only [AV.upd]
    cases hg : (Tag.own n).names m with
    | true => simp [VR]
    | false =>
      have hm : m ≠ n := fun e => by simp [Tag.names, e] at hg
      obtain ⟨h1, h2⟩ := (hw.kn m hm).own.1 b' o' hat
      exact ⟨hho, b', o', rfl, h1, z, (World.cell?_of_block (w := w) (a := ⟨b', o' + ix, none⟩) h2).trans hz, hy'⟩
  | .bx g cells, v, h => by
    simp only [VR] at h
    obtain ⟨b', o', rfl, hat, hc⟩ := h
    simp only [AV.upd]
    cases hg : g.beq (.own n) with
    | false =>
      simp only [Bool.false_eq_true, if_false]
      simp only [VR]
      have hk := hw.keeps g hg
      obtain ⟨h1, h2⟩ := hk.1 b' o' hat
      exact ⟨b', o', rfl, h1, CL.upd hw cells b' o' (fun i => World.cell?_of_block (w := w) (a := ⟨b', i, none⟩) h2) hc⟩
    | true =>
      obtain rfl := names_of_beq hg
      simp only [if_true, VR]
      obtain ⟨ha, hb⟩ := hat
      rw [hw.at_] at hb; cases hb
      refine ⟨b, o, rfl, ⟨hw.act, hw.at_⟩, ?_⟩
      have hx := CLx.upd hw cells o hc
      have := cl_of_clx (x := x) (u := u) (AV.updL (.own n) j x cells) o hx (fun _ hlt => ⟨hw.cell ?_, hw.val⟩)
      · rw [if_pos (by omega)] at this
        rwa [show o + j - o = j by omega] at this
      · rw [updL_len] at hlt
        have hj : j < cells.length := by omega
        obtain ⟨z, hz, _⟩ := cl_get (j := j) (x := cells[j]) hc (by simp [hj])
        rw [hz]; rfl
  | .ad g idx y, v, h => by
    simp only [VR] at h
    obtain ⟨b', o', rfl, hat, z, hz, hy⟩ := h
    simp only [AV.upd]
    have hy' := VR.upd hw y z hy
    cases hg : g.beq (.own n) with
    | false =>
      simp only [Bool.false_eq_true, if_false]
      simp only [VR]
      have hk := hw.keeps g hg
      obtain ⟨h1, h2⟩ := hk.1 b' o' hat
      exact ⟨b', o', rfl, h1, z, (World.cell?_of_block (w := w) (a := ⟨b', o' + idx, none⟩) h2).trans hz, hy'⟩
    | true =>
      obtain rfl := names_of_beq hg
      obtain ⟨ha, hb⟩ := hat
      rw [hw.at_] at hb; cases hb
      simp only [if_true]
      by_cases hi : idx = j
      · subst hi
        simp only [beq_self_eq_true, if_true, VR]
        exact ⟨b, o, rfl, ⟨hw.act, hw.at_⟩, u, hw.cell (by rw [hz]; rfl), hw.val⟩
      · have : (idx == j) = false := by simpa using hi
        simp only [this, Bool.false_eq_true, if_false, VR]
        exact ⟨b, o, rfl, ⟨hw.act, hw.at_⟩, z, by rw [hw.other _ (by omega)]; exact hz, hy'⟩
  | .agg cells, v, h => by
    simp only [VR] at h
    obtain ⟨vs, rfl, hv⟩ := h
    simp only [AV.upd, VR]
    exact ⟨vs, rfl, VL.upd hw cells vs.toList hv⟩
  | .tup cells, v, h => by
    simp only [VR] at h
    obtain ⟨vs, rfl, hv⟩ := h
    simp only [AV.upd, VR]
    exact ⟨vs, rfl, VL.upd hw cells vs.toList hv⟩
  | .fn f cells, v, h => by
    simp only [VR] at h
    obtain ⟨vs, rfl, hv⟩ := h
    simp only [AV.upd, VR]
    exact ⟨vs, rfl, VL.upd hw cells vs.toList hv⟩
theorem VL.upd {n b o j : Nat} {x : AV} {u : Value} (hw : Wrote G w w' n b o j x u) : ∀ (xs : List AV) (vs : List Value), VL G w xs vs → VL G w' (AV.updL (.own n) j x xs) vs
  | [], vs, h => by simpa [AV.updL, VL] using h
  | y :: r, vs, h => by
    simp only [VL] at h
    obtain ⟨z, zs, rfl, hy, hr⟩ := h
    simp only [AV.updL, VL]
    exact ⟨z, zs, rfl, VR.upd hw y z hy, VL.upd hw r zs hr⟩
theorem CL.upd {n b o j : Nat} {x : AV} {u : Value} (hw : Wrote G w w' n b o j x u) : ∀ (xs : List AV) (b' o' : Nat), (∀ i, w'.cell? ⟨b', i, none⟩ = w.cell? ⟨b', i, none⟩) → CL G w b' o' xs → CL G w' b' o' (AV.updL (.own n) j x xs)
  | [], b', o', _, h => by simp [AV.updL, CL]
  | y :: r, b', o', hc, h => by
    simp only [CL] at h
    simp only [AV.updL, CL]
    obtain ⟨⟨z, hz, hy⟩, hr⟩ := h
    exact ⟨⟨z, by rw [hc]; exact hz, VR.upd hw y z hy⟩, CL.upd hw r b' (o' + 1) hc hr⟩
theorem CLx.upd {n b o j : Nat} {x : AV} {u : Value} (hw : Wrote G w w' n b o j x u) : ∀ (xs : List AV) (o' : Nat), CL G w b o' xs → CLx G w' b o' (o + j) (AV.updL (.own n) j x xs)
  | [], o', h => by simp [AV.updL, CLx]
  | y :: r, o', h => by
    simp only [CL] at h
    simp only [AV.updL, CLx]
    obtain ⟨⟨z, hz, hy⟩, hr⟩ := h
    exact ⟨fun hne => ⟨z, by rw [hw.other _ hne]; exact hz, VR.upd hw y z hy⟩, CLx.upd hw r (o' + 1) hr⟩
theorem updL_len {g : Tag} {j : Nat} {x : AV} : ∀ (xs : List AV), (AV.updL g j x xs).length = xs.length
  | [] => rfl
  | y :: r => by simp [AV.updL, updL_len r]
end
end
end Go.Proofs.LV
