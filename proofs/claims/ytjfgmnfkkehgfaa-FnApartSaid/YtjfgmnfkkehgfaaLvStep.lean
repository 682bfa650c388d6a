/- One operation of the program that is no call and no store, as a whole. -/
import Derived.Test.YtjfgmnfkkehgfaaLvEval3
namespace Go.Proofs.LV
open Go Go.RowKit
set_option linter.unusedVariables false
set_option linter.unusedSimpArgs false

section
variable {P : Program} {C : Ctx} {G : Gh} {w : World}

theorem partsInOrder_ok : ∀ (n : Nat) (ps : List (Nat × Operand)), partsInOrder n ps = true → ∀ (j : Nat) (p : Nat × Operand), ps[j]? = some p → p.1 = n + j
  | n, [], _, j, p, h => by simp at h
  | n, (i, x) :: r, h, 0, p, hj => by simp [partsInOrder] at h hj; subst hj; exact h.1
  | n, (i, x) :: r, h, j + 1, p, hj => by
    simp [partsInOrder] at h hj
    have := partsInOrder_ok (n + 1) r h.2 j p hj
    omega

variable {dst : Option Tmp} {type : TypeId} {pos : String} {after : Array Edge} {guard : Option (Nat × Bool)} {kd : K} {xs : List (TypeId × Operand)} {a : Act} {vs : List AV} {v : AV} {ns : List Nat} {ob : Prop} {d : Nat}

/-- what is to be shown of an operation -/
def OpOk (P : Program) (C : Ctx) (G : Gh) (w : World) (o : Oper) (a : Act) : Prop :=
  ∀ (kd : K) (xs : List (TypeId × Operand)) (vs : List AV) (v : AV) (ns : List Nat) (ob : Prop) (d : Nat), resK P o = some (kd, xs) → VL G w vs (xs.map fun p => a.eval p.2) → evalK d kd vs = some (v, ns, ob) → ob → Does P C G w (execOp a.eval o) v ns

theorem op_move (hs : SimG C G w) (x : Operand) : OpOk P C G w ⟨dst, .move x, type, pos, after, guard⟩ a := by
  intro kd xs vs v ns ob d hr hv he hob
  simp only [resK] at hr
  split at hr
  · split at hr <;> cases hr
    exact does_nilsl (by simp [execOp, Act.eval]) hs he
  · cases hr
    exact does_mv hs (by simp [execOp]) hv he
theorem op_assign (hs : SimG C G w) (x : Operand) : OpOk P C G w ⟨dst, .assign x, type, pos, after, guard⟩ a := by
  intro kd xs vs v ns ob d hr hv he hob
  simp only [resK] at hr
  split at hr
  · split at hr <;> cases hr
    exact does_nilsl (by simp [execOp, Act.eval]) hs he
  · cases hr
    exact does_mv hs (by simp [execOp]) hv he
theorem op_pick (hs : SimG C G w) (c x y : Operand) : OpOk P C G w ⟨dst, .pick c x y, type, pos, after, guard⟩ a := by
  intro kd xs vs v ns ob d hr hv he hob
  simp only [resK] at hr; cases hr
  exact does_pick hs hv he
theorem resEql_inv {op : BinOp} {t : TypeId} {x y : Operand} {kd : K} {xs : List (TypeId × Operand)} (h : resEql P op t x y = some (kd, xs)) :
    op = .eql ∧ y = .const (.slice none 0 0) ∧ ∃ e, sliceT P t = some e ∧ kd = .isnil ∧ xs = [(t, x)] := by
  unfold resEql at h
  split at h
  · rename_i e hte
    cases h; exact ⟨rfl, rfl, e, hte, rfl, rfl⟩
  · cases h
theorem op_binOp (hs : SimG C G w) (op : BinOp) (t : TypeId) (x y : Operand) (u : TypeId) : OpOk P C G w ⟨dst, .binOp op t x y u, type, pos, after, guard⟩ a := by
  intro kd xs vs v ns ob d hr hv he hob
  simp only [resK] at hr
  have key : (if scalarT P t then some (K.bin op, [(t, x), (u, y)]) else if boolT P t then some (K.binb op, [(t, x), (u, y)]) else resEql P op t x y) = some (kd, xs) → Does P C G w (execOp a.eval ⟨dst, .binOp op t x y u, type, pos, after, guard⟩) v ns := by
    intro hr
    split at hr
    · cases hr; exact does_bin (u := u) hs hv he hob
    · split at hr
      · cases hr
        rename_i hbt
        have ht : P.underlying t = some .bool := by unfold boolT at hbt; split at hbt <;> simp_all
        exact does_binb (u := u) hs ht hv he
      · obtain ⟨rfl, rfl, e, hte, rfl, rfl⟩ := resEql_inv hr
        exact does_isnil hs (sliceT_ok hte).1 hv he hob
  split at hr
  · rw [if_pos rfl] at hr; cases hr
  · rw [if_neg (by simp)] at hr
    exact key hr
theorem op_unOp (hs : SimG C G w) (op : UnOp) (t : TypeId) (x : Operand) : OpOk P C G w ⟨dst, .unOp op t x, type, pos, after, guard⟩ a := by
  intro kd xs vs v ns ob d hr hv he hob
  cases op <;> simp only [resK] at hr <;> cases hr
  · exact does_neg hs hv he
  · exact does_not hs hv he
theorem op_convert (hs : SimG C G w) (src dst' : TypeId) (x : Operand) : OpOk P C G w ⟨dst, .convert src dst' x, type, pos, after, guard⟩ a := by
  intro kd xs vs v ns ob d hr hv he hob
  simp only [resK] at hr
  split at hr <;> cases hr
  · rename_i h1 h2; exact does_convI hs (by rw [h1]; rfl) h2 hv he hob
  · rename_i h1 h2; exact does_convF hs (by rw [h1]; rfl) h2 hv he hob
  · rename_i h1 h2; exact does_convC hs (by rw [h1]; rfl) h2 hv he hob
theorem op_indexAddr (hs : SimG C G w) (t : TypeId) (x i : Operand) : OpOk P C G w ⟨dst, .indexAddr t x i, type, pos, after, guard⟩ a := by
  intro kd xs vs v ns ob d hr hv he hob
  simp only [resK] at hr
  split at hr <;> cases hr
  rename_i e hte
  exact does_iaddr hs hte hv he hob
theorem op_fieldAddr (hs : SimG C G w) (s : TypeId) (x : Operand) (f : Nat) : OpOk P C G w ⟨dst, .fieldAddr s x f, type, pos, after, guard⟩ a := by
  intro kd xs vs v ns ob d hr hv he hob
  simp only [resK] at hr
  split at hr
  · rename_i fields hu
    split at hr
    · rename_i fd hf
      split at hr <;> cases hr
      rename_i h1
      exact does_faddr hs hu hf h1 hv he
    · cases hr
  · cases hr
theorem op_load (hs : SimG C G w) (t : TypeId) (x : Operand) : OpOk P C G w ⟨dst, .load t x, type, pos, after, guard⟩ a := by
  intro kd xs vs v ns ob d hr hv he hob
  simp only [resK] at hr
  split at hr
  · rename_i dd i hd hi
    split at hr <;> cases hr
    · rename_i hrow
      have : dd.isRow = true := by unfold isRowT at hrow; rw [hd] at hrow; cases dd <;> simp_all
      exact does_loadN hs hd this (by rw [hi]; rfl) hv he
    · rename_i hrow
      exact does_load hs hd (by simpa using hrow) hv he
  · cases hr
theorem op_store (t : TypeId) (x y : Operand) : OpOk P C G w ⟨dst, .store t x y, type, pos, after, guard⟩ a := by
  intro kd xs vs v ns ob d hr hv he hob
  simp only [resK] at hr
  split at hr
  · split at hr
    · cases hr; simp [evalK] at he
    · split at hr <;> cases hr; simp [evalK] at he
  · cases hr
theorem op_alloc (hs : SimG C G w) (e : TypeId) : OpOk P C G w ⟨dst, .alloc e, type, pos, after, guard⟩ a := by
  intro kd xs vs v ns ob d hr hv he hob
  simp only [resK] at hr
  split at hr
  · rename_i i hi
    split at hr
    · rename_i z hz
      split at hr <;> cases hr
      rename_i cs hcs
      exact does_alloc hs hi hz hcs he
    · cases hr
  · cases hr
theorem op_box (hs : SimG C G w) (e : TypeId) (x : Operand) : OpOk P C G w ⟨dst, .box e x, type, pos, after, guard⟩ a := by
  intro kd xs vs v ns ob d hr hv he hob
  simp only [resK] at hr
  split at hr <;> cases hr
  · exact does_boxN hs hv he hob
  · exact does_box hs hv he hob
theorem op_build (hs : SimG C G w) (t : TypeId) (parts : Array (Nat × Operand)) : OpOk P C G w ⟨dst, .build t parts, type, pos, after, guard⟩ a := by
  intro kd xs vs v ns ob d hr hv he hob
  simp only [resK] at hr
  split at hr
  · rename_i fields it hu hi
    split at hr
    · rename_i z hz
      split at hr
      · rename_i cs ps hc hp
        split at hr <;> cases hr
        rename_i hf
        exact does_build hs hu hi hz hc hp hf hv he
      · cases hr
    · cases hr
  · rename_i n e it hu hi
    split at hr
    · rename_i z hz
      split at hr
      · rename_i cs hc
        split at hr <;> cases hr
        rename_i h1
        exact does_buildA hs hu hi hz hc h1 hv he
      · cases hr
    · cases hr
  · cases hr
theorem op_index (hs : SimG C G w) (t : TypeId) (x i : Operand) : OpOk P C G w ⟨dst, .index t x i, type, pos, after, guard⟩ a := by
  intro kd xs vs v ns ob d hr hv he hob
  simp only [resK] at hr
  split at hr
  · rename_i n e hu
    split at hr <;> cases hr
    rename_i hc
    exact does_aidx hs hu hc.1 hc.2.1 hc.2.2 hv he hob
  · cases hr
theorem op_buildSlice (hs : SimG C G w) (t : TypeId) (n : Nat) (parts : Array (Nat × Operand)) : OpOk P C G w ⟨dst, .buildSlice t n parts, type, pos, after, guard⟩ a := by
  intro kd xs vs v ns ob d hr hv he hob
  simp only [resK] at hr
  split at hr
  · rename_i e c hte hce
    split at hr <;> cases hr
    rename_i hcond
    obtain ⟨rfl, hn, hord, hz⟩ := hcond
    obtain ⟨hu, h1⟩ := sliceT_ok hte
    cases hi : P.info? e with
    | none => simp [hi] at hz
    | some i =>
      cases hzv : i.zero with
      | none => simp [hi, hzv] at hz
      | some z =>
        have hsz : i.size = 1 := by unfold size1 at h1; simp [hi] at h1; exact h1
        have hmap : (parts.toList.map fun p => ((e, p.2) : TypeId × Operand)).map (fun p => a.eval p.2) = (parts.map fun (i, x) => (i, a.eval x)).toList.map (·.2) := by
          simp [List.map_map, Function.comp_def]
        have hlen : ((parts.toList.map fun p => ((e, p.2) : TypeId × Operand)).map (fun p => a.eval p.2)).length = parts.size := by simp
        have := does_lit (parts := parts.map fun (i, x) => (i, a.eval x)) (us := (parts.toList.map fun p => ((e, p.2) : TypeId × Operand)).map (fun p => a.eval p.2)) hs hu hi hsz hzv (by rw [hlen]; exact hn) hmap.symm
          (fun j p hj => by
            simp only [Array.toList_map, List.getElem?_map, Option.map_eq_some_iff] at hj
            obtain ⟨q, hq, rfl⟩ := hj
            simpa using partsInOrder_ok 0 parts.toList hord j q hq) (sub00_len c) hv he
        rw [hlen] at this
        exact this
  · cases hr
theorem op_makeSlice (hs : SimG C G w) (t : TypeId) (l c : Operand) : OpOk P C G w ⟨dst, .makeSlice t l c, type, pos, after, guard⟩ a := by
  intro kd xs vs v ns ob d hr hv he hob
  simp only [resK] at hr
  split at hr
  · rename_i e hte
    split at hr
    · rename_i i hi
      split at hr
      · rename_i z hz
        split at hr
        · rename_i y hy
          split at hr <;> cases hr
          rename_i hcond
          obtain ⟨hu, h1⟩ := sliceT_ok hte
          have hsz : i.size = 1 := by unfold size1 at h1; simp [hi] at h1; exact h1
          exact does_mksl hs hu hi hsz hz hcond.2 hcond.1 hy hv he hob
        · cases hr
      · cases hr
    · cases hr
  · cases hr
theorem op_slice (hs : SimG C G w) (t : TypeId) (x : Operand) (lo hi mx : Option Operand) : OpOk P C G w ⟨dst, .slice t x lo hi mx, type, pos, after, guard⟩ a := by
  intro kd xs vs v ns ob d hr hv he hob
  cases hte : sliceT P t with
  | none => simp [resK, hte] at hr
  | some e =>
    cases lo <;> cases hi <;> cases mx <;> simp only [resK, hte] at hr <;> cases hr
    · exact does_slice (lo := none) (hi := some _) hs hte (.inr (.inr ⟨rfl, rfl, _, rfl, rfl, rfl⟩)) hv he hob
    · exact does_slice3 hs hte hv he hob
    · exact does_slice (lo := some _) (hi := none) hs hte (.inr (.inl ⟨rfl, rfl, _, rfl, rfl, rfl⟩)) hv he hob
    · exact does_slice (lo := some _) (hi := some _) hs hte (.inl ⟨rfl, rfl, _, _, rfl, rfl, rfl⟩) hv he hob
theorem op_extract (hs : SimG C G w) (t : Operand) (j : Nat) : OpOk P C G w ⟨dst, .extract t j, type, pos, after, guard⟩ a := by
  intro kd xs vs v ns ob d hr hv he hob
  simp only [resK] at hr; cases hr
  exact does_extract hs hv he
theorem op_nilCheck (hs : SimG C G w) (x : Operand) : OpOk P C G w ⟨dst, .nilCheck x, type, pos, after, guard⟩ a := by
  intro kd xs vs v ns ob d hr hv he hob
  simp only [resK] at hr; cases hr
  exact does_nilck hs rfl rfl hv he
theorem op_makeFunc (hs : SimG C G w) (fn : Fn) (first cap : Array Operand) : OpOk P C G w ⟨dst, .makeFunc fn first cap, type, pos, after, guard⟩ a := by
  intro kd xs vs v ns ob d hr hv he hob
  cases fn with
  | func f =>
    simp only [resK] at hr
    split at hr <;> cases hr
    rename_i hf
    simp only [evalK] at he; cases he
    have hfe : first = #[] := Array.eq_empty_of_size_eq_zero hf
    subst hfe
    have := does_mkfn (P := P) (f := f) (us := cap.map a.eval) hs (vs := vs) (by simpa [List.map_map, Function.comp_def] using hv)
    simpa [execOp] using this
  | _ => simp [resK] at hr

theorem Does.congr {m m' : Sem Next} {v : AV} {ns : List Nat} (h : m.run P w = m'.run P w) (h' : Does P C G w m' v ns) : Does P C G w m v ns := by
  obtain ⟨u, w', G', hr, ok, hv⟩ := h'
  exact ⟨u, w', G', h.trans hr, ok, hv⟩

theorem run_callB {b : Builtin} {args : Array Operand} {ts : Array TypeId} (m : Sem Value) (hb : ∀ consts, builtin b ts type consts (args.map a.eval) = (do pure (.value (← m)))) :
    (execOp a.eval ⟨dst, .call ⟨.builtin b, args, ts⟩, type, pos, after, guard⟩).run P w = (do pure (.value (← m)) : Sem Next).run P w := by
  simp [execOp, resolve, invoke, hb]

theorem arr_of_list {α : Type} {xs : Array α} {l : List α} (h : xs.toList = l) : xs = l.toArray := by cases xs; simp_all

theorem op_call (hs : SimG C G w) (c : Call) : OpOk P C G w ⟨dst, .call c, type, pos, after, guard⟩ a := by
  intro kd xs vs v ns ob d hr hv he hob
  obtain ⟨callee, args, ts⟩ := c
  simp only [resK] at hr
  split at hr
  · split at hr <;> cases hr; simp [evalK] at he
  · split at hr <;> cases hr; simp [evalK] at he
  · rename_i x hargs
    have ea := arr_of_list hargs; subst ea
    split at hr
    · rename_i t hts
      have et := arr_of_list hts; subst et
      split at hr <;> cases hr
      rename_i e hte
      refine Does.congr (run_callB _ (fun _ => by simp [builtin]; rfl)) ?_
      exact does_len (ty := type) hs (sliceT_ok hte).1 hv he
    · cases hr
  · rename_i x y hargs
    have ea := arr_of_list hargs; subst ea
    split at hr
    · rename_i t u hts
      have et := arr_of_list hts; subst et
      split at hr
      · rename_i htu; subst htu
        split at hr
        · rename_i e hte
          split at hr
          · rename_i i hi
            split at hr <;> cases hr
            rename_i hcond
            obtain ⟨hb, hz⟩ := hcond
            obtain ⟨hu, h1⟩ := sliceT_ok hte
            have hsz : i.size = 1 := by unfold size1 at h1; simp [hi] at h1; exact h1
            cases hzv : i.zero with
            | none => simp [hzv] at hz
            | some z =>
              refine Does.congr (run_callB _ (fun _ => by simp [builtin]; rfl)) ?_
              exact does_app (ty := type) hu hi hsz hzv (by simpa [hzv] using hz) hb hs hv he hob
          · cases hr
        · cases hr
      · cases hr
    · cases hr
  · (repeat' split at hr) <;> cases hr
    simp [evalK] at he
  · rename_i x y hargs
    have ea := arr_of_list hargs; subst ea
    split at hr <;> cases hr
    rename_i t u hts
    have et := arr_of_list hts; subst et
    refine Does.congr (run_callB _ (fun _ => by simp [builtin]; rfl)) ?_
    exact does_max hs hv he
  · rename_i x y hargs
    have ea := arr_of_list hargs; subst ea
    split at hr <;> cases hr
    rename_i t u hts
    have et := arr_of_list hts; subst et
    refine Does.congr (run_callB _ (fun _ => by simp [builtin]; rfl)) ?_
    exact does_min hs hv he
  · rename_i x y hargs
    have ea := arr_of_list hargs; subst ea
    split at hr <;> cases hr
    rename_i t u hts
    have et := arr_of_list hts; subst et
    refine Does.congr (run_callB _ (fun _ => by simp [builtin]; rfl)) ?_
    exact does_cplx hs hv he
  · rename_i x hargs
    have ea := arr_of_list hargs; subst ea
    split at hr <;> cases hr
    rename_i t hts
    have et := arr_of_list hts; subst et
    refine Does.congr (run_callB _ (fun _ => by simp [builtin]; rfl)) ?_
    exact does_re hs hv he
  · rename_i x hargs
    have ea := arr_of_list hargs; subst ea
    split at hr <;> cases hr
    rename_i t hts
    have et := arr_of_list hts; subst et
    refine Does.congr (run_callB _ (fun _ => by simp [builtin]; rfl)) ?_
    exact does_im hs hv he
  · cases hr

theorem does_op (hs : SimG C G w) (o : Oper) (a : Act) : OpOk P C G w o a := by
  obtain ⟨dst, op, type, pos, after, guard⟩ := o
  have dead : (∀ (kd : K) (xs : List (TypeId × Operand)), resK P ⟨dst, op, type, pos, after, guard⟩ ≠ some (kd, xs)) → OpOk P C G w ⟨dst, op, type, pos, after, guard⟩ a :=
    fun h kd xs vs v ns ob d hr => absurd hr (h kd xs)
  cases op with
  | move x => exact op_move hs x
  | assign x => exact op_assign hs x
  | pick c x y => exact op_pick hs c x y
  | binOp op t x y u => exact op_binOp hs op t x y u
  | unOp op t x => exact op_unOp hs op t x
  | convert s t x => exact op_convert hs s t x
  | indexAddr t x i => exact op_indexAddr hs t x i
  | fieldAddr s x f => exact op_fieldAddr hs s x f
  | load t x => exact op_load hs t x
  | store t x y => exact op_store t x y
  | alloc e => exact op_alloc hs e
  | box e x => exact op_box hs e x
  | build t ps => exact op_build hs t ps
  | index t x i => exact op_index hs t x i
  | buildSlice t n ps => exact op_buildSlice hs t n ps
  | makeSlice t l c => exact op_makeSlice hs t l c
  | slice t x lo hi mx => exact op_slice hs t x lo hi mx
  | extract t j => exact op_extract hs t j
  | nilCheck x => exact op_nilCheck hs x
  | makeFunc fn first cap => exact op_makeFunc hs fn first cap
  | call c => exact op_call hs c
  | _ => exact dead (fun kd xs => by simp [resK])
theorem resK_lit {o : Oper} {e : Cont} (h : resK P o = some (.lit true e, [])) : ∃ t el i z, o.op = .buildSlice t 0 #[] ∧ P.underlying t = some (.slice el) ∧ P.info? el = some i ∧ i.size = 1 ∧ i.zero = some z := by
  obtain ⟨dst, op, type, pos, after, guard⟩ := o
  cases op <;> simp only [resK] at h
  case buildSlice t n parts =>
    split at h
    · rename_i el c hte hce
      split at h
      · rename_i hcond
        obtain ⟨hn, _, _, hz⟩ := hcond
        simp only [Option.some.injEq, Prod.mk.injEq, List.map_eq_nil_iff] at h
        have hp : parts = #[] := by cases parts; simp_all
        subst hp
        obtain ⟨hu, h1⟩ := sliceT_ok hte
        cases hi : P.info? el with
        | none => simp [hi] at hz
        | some i =>
          cases hzv : i.zero with
          | none => simp [hi, hzv] at hz
          | some z =>
            refine ⟨t, el, i, z, by rw [hn]; rfl, hu, hi, ?_, hzv⟩
            unfold size1 at h1; simp [hi] at h1; exact h1
      · cases h
    · cases h
  case binOp op t x y u =>
    (repeat' split at h) <;> first | (have := resEql_kd h; cases this; done) | cases h | simp at h
  all_goals (repeat' split at h) <;> simp_all
theorem does_opF (hs : SimG C G w) {o : Oper} {ops : Array Oper} {a : Act} {kd : K} {xs : List (TypeId × Operand)} {vs : List AV} {v : AV} {ns : List Nat} {ob : Prop} {d : Nat} (h : resF P ops o = some (kd, xs))
    (hv : VL G w vs (xs.map fun p => a.eval p.2)) (he : evalK d kd vs = some (v, ns, ob)) (hob : ob) : Does P C G w (execOp a.eval o) v ns := by
  rcases resF_inv h with h | ⟨e, rfl, rfl, hk⟩ | ⟨rfl, hk⟩
  · exact does_op hs o a _ _ _ _ _ _ _ h hv he hob
  · obtain ⟨t, el, i, z, hop, hu, hi, hsz, hz⟩ := resK_lit hk
    have := does_lit0 (P := P) (C := C) (parts := #[]) (c := e) hs hu hi hsz hz rfl he
    simpa [execOp, hop] using this
  · refine does_op hs o a .app xs vs v ns ob d hk hv ?_ hob
    simp only [evalK] at he ⊢
    unfold eAppn at he
    split at he
    · rename_i o0 xs g p ys
      have e : Cont.app (xs.sub 0 0) ys = Cont.only xs ys := by cases xs <;> cases ys <;> simp [Cont.app, Cont.only, Cont.sub]
      unfold eApp
      simp only [e]
      exact he
    · cases he
end
end Go.Proofs.LV
