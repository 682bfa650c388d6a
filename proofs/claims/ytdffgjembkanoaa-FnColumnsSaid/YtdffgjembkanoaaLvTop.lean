/- From a law's contract to the given statement: how a law's arguments are opened, and how the row is closed. -/
import Derived.Test.YtdffgjembkanoaaLvFunc
import Derived.Carry
import Derived.ProofKit
import Derived.OpenShut
import Derived.WalkKit
import Derived.Laws.Cover2
import Derived.ChangeCalls
namespace Go.Proofs.LV
open Go Go.RowKit Go.ChangeShapes Go.WideShapes Go.ChangeAt
set_option linter.unusedVariables false
set_option linter.unusedSimpArgs false

/-! ## The shapes of a law's arguments -/
inductive CT where
  | b
  | i (k : IntKind)
  | f (k : FloatKind)
  | sb
  | si (k : IntKind)
  | sf (k : FloatKind)
  | sff (k : FloatKind)

/-- a canonical word of the format -/
def Fw (k : FloatKind) (x : Nat) : Prop := ∃ b, b < 2 ^ k.format.width ∧ canon k b = x
def Iw (k : IntKind) (n : Int) : Prop := k.min ≤ n ∧ n ≤ k.max

def Shape : CT → AV → Prop
  | .b, v => ∃ x, v = .b x
  | .i k, v => ∃ n, v = .i k n ∧ Iw k n
  | .f k, v => ∃ x, v = .f k x ∧ Fw k x
  | .sb, v => ∃ xs : List Bool, v = .sl .imm 0 (.b xs) ∧ xs.length ≤ maxLen
  | .si k, v => ∃ xs : List Int, v = .sl .imm 0 (.i k xs) ∧ xs.length ≤ maxLen ∧ ∀ x ∈ xs, Iw k x
  | .sf k, v => ∃ xs : List Nat, v = .sl .imm 0 (.f k xs) ∧ xs.length ≤ maxLen ∧ ∀ x ∈ xs, Fw k x
  | .sff k, v => ∃ xs : List (List Nat), v = .sl .imm 0 (.ff k xs) ∧ xs.length ≤ maxLen ∧ ∀ x ∈ xs, x.length ≤ maxLen ∧ ∀ y ∈ x, Fw k y

inductive TY where
  | one (c : CT)
  | st (cs : List CT)
def Shapes : List CT → List AV → Prop
  | [], vs => vs = []
  | c :: cs, vs => ∃ x xs, vs = x :: xs ∧ Shape c x ∧ Shapes cs xs
def ShapeT : TY → AV → Prop
  | .one c, v => Shape c v
  | .st cs, v => ∃ xs, v = .agg xs ∧ Shapes cs xs
def ShapesT : List TY → List AV → Prop
  | [], vs => vs = []
  | c :: cs, vs => ∃ x xs, vs = x :: xs ∧ ShapeT c x ∧ ShapesT cs xs

def cellTy (P : Program) (t : TypeId) : Option CT :=
  match P.underlying t with
  | some .bool => some .b
  | some (.int k) => some (.i k)
  | some (.float k) => some (.f k)
  | some (.slice e) => if P.cellsOf e = 1 then match P.underlying e with
    | some .bool => some .sb
    | some (.int k) => some (.si k)
    | some (.float k) => some (.sf k)
    | some (.slice e') => if P.cellsOf e' = 1 then match P.underlying e' with
      | some (.float k) => some (.sff k)
      | _ => none else none
    | _ => none else none
  | _ => none
def fieldsTy (P : Program) : Nat → List Field → Option (List CT)
  | _, [] => some []
  | n, f :: r => if f.offset = n ∧ P.cellsOf f.type = 1 then match cellTy P f.type, fieldsTy P (n + 1) r with
    | some c, some cs => some (c :: cs)
    | _, _ => none else none
def tyOf (P : Program) (t : TypeId) : Option TY :=
  match P.underlying t with
  | some (.struct fs) => if P.cellsOf t = fs.size then match fieldsTy P 0 fs.toList with | some cs => some (.st cs) | none => none else none
  | _ => match cellTy P t with | some c => some (.one c) | none => none

/-- the ghost in which all that was there is fixed -/
def topGh (w : World) : Gh := ⟨fun _ => Fam.no, fun _ => False, fun b => b < w.heap.size, fun _ => none⟩

def cellF (k : FloatKind) : Value → Nat | .float _ b => canon k b | _ => 0
def cellI : Value → Int | .int _ n => n | _ => 0
def cellB : Value → Bool | .bool b => b | _ => false
def rowOf (w : World) : Value → List Value
  | .slice (some a) len _ => (List.range len).map fun i => (w.cell? ⟨a.block, a.off + i, none⟩).getD undef
  | _ => []

theorem addr_add {a : Addr} (h : a.spot = none) (i : Nat) : a.add i = ⟨a.block, a.off + i, none⟩ := by
  unfold Addr.add
  split
  · subst_vars; cases a; simp_all
  · rfl
theorem cell_spot {w : World} {a : Addr} {u : Value} (h : w.cell? a = some u) : a.spot = none := by
  unfold World.cell? at h
  split at h
  · split at h
    · cases h
    · rename_i hs; cases hsp : a.spot <;> simp_all
  · cases h
theorem cell_lt {w : World} {a : Addr} {u : Value} (h : w.cell? a = some u) : a.block < w.heap.size := by
  unfold World.cell? at h
  split at h
  · rename_i hh
    have := Array.getElem?_eq_some_iff.1 hh
    exact this.1
  · cases h

section
variable {H : Type} {enc : TypeId × Value → H} {P : Program} {w : World}

theorem slice_open {t e : TypeId} {fuel : Nat} {c : Value} {x : DataW H × List MemPlace} (ht : P.underlying t = some (.slice e)) (hc : P.cellsOf e = 1)
    (h : DataW.trod enc P w 0 (fun _ => true) true fuel t [c] = some x) :
    (rowOf w c).length ≤ maxLen ∧ (∀ u ∈ rowOf w c, ∃ n y, DataW.trod enc P w 0 (fun _ => true) true n e [u] = some y) ∧
      ∀ E : Nat → Value → Prop, (∀ (j : Nat) (u : Value), (rowOf w c)[j]? = some u → E j u) → SRow (topGh w) w .imm 0 (rowOf w c).length E c := by
  rcases DataW.trod_slice ht h with ⟨h0, _⟩ | ⟨a, len, cap, elems, rest, n, _, h0, rfl, hb, hl, hm, hlen, hel, hsp, hns⟩
  · simp only [List.cons.injEq, and_true] at h0
    subst h0
    exact ⟨Nat.zero_le _, by simp [rowOf], fun E _ => .inr ⟨rfl, ⟨none, rfl⟩, trivial⟩⟩
  · simp only [List.cons.injEq, and_true] at h0
    subst h0
    have each : ∀ i, i < cap → ∃ u y, w.cell? (a.add i) = some u ∧ DataW.trod enc P w 0 (fun _ => true) true n e [u] = some y := by
      intro i hi
      have : ∃ y, (w.cells? 0 (a.add (i * P.cellsOf e)) (P.cellsOf e)).bind (DataW.trod enc P w 0 (fun _ => true) true n e) = some y := by
        by_cases hi' : i < len
        · rw [hel i hi']; exact ⟨_, List.getElem?_eq_getElem (by omega)⟩
        · obtain ⟨hrl, hr⟩ := hsp rfl
          have := hr (i - len) (by omega)
          rw [show len + (i - len) = i by omega] at this
          rw [this]; exact ⟨_, List.getElem?_eq_getElem (by omega)⟩
      obtain ⟨y, hy⟩ := this
      rw [hc, Nat.mul_one, Option.bind_eq_some_iff] at hy
      obtain ⟨cs', hcs, hy'⟩ := hy
      obtain ⟨_, hl1, hg⟩ := World.cells?_some hcs
      match cs', hl1 with
      | [u], _ =>
        have := hg 0 (by omega)
        exact ⟨u, y, by simpa [Addr.add] using this, hy'⟩
    have hrl : (rowOf w (.slice (some a) len cap)).length = len := by simp [rowOf]
    by_cases h0 : cap = 0
    · subst h0
      have hl0 : len = 0 := by omega
      subst hl0
      exact ⟨by simp [rowOf], by simp [rowOf], fun E _ => .inr ⟨by simp [rowOf], ⟨_, rfl⟩, trivial⟩⟩
    · obtain ⟨u0, _, hu0, _⟩ := each 0 (by omega)
      have hu0' : w.cell? a = some u0 := by simpa [Addr.add] using hu0
      have hspot := cell_spot hu0'
      have each' : ∀ i, i < cap → ∃ u y, w.cell? ⟨a.block, a.off + i, none⟩ = some u ∧ DataW.trod enc P w 0 (fun _ => true) true n e [u] = some y := by
        intro i hi
        have := each i hi
        rwa [addr_add hspot] at this
      refine ⟨by rw [hrl]; omega, ?_, fun E hE => ?_⟩
      · intro u hu
        simp only [rowOf, List.mem_map, List.mem_range] at hu
        obtain ⟨i, hi, rfl⟩ := hu
        obtain ⟨u, y, hu, hy⟩ := each' i (by omega)
        exact ⟨n, y, by rw [hu]; exact hy⟩
      · rw [hrl]
        refine .inl ⟨a.block, a.off, cap, ?_, cell_lt hu0', hl, hm, fun j hj => ?_, fun j hj => ?_⟩
        · cases a; simp_all
        · obtain ⟨u, y, hu, hy⟩ := each' j (by omega)
          refine ⟨u, by simpa using hu, hE j u ?_⟩
          simp [rowOf, hj, hu]
        · obtain ⟨u, y, hu, hy⟩ := each' j hj
          simp [hu]

theorem one_float {t : TypeId} {k : FloatKind} {fuel : Nat} {c : Value} {x : DataW H × List MemPlace} {base : Nat} {spare : Nat → Bool} {held : Bool} (ht : P.underlying t = some (.float k))
    (h : DataW.trod enc P w base spare held fuel t [c] = some x) : Fw k (cellF k c) ∧ FR k (cellF k c) c := by
  cases fuel with
  | zero => simp [DataW.trod] at h
  | succ n =>
    unfold DataW.trod at h
    rw [ht] at h
    split at h <;> simp_all
    rename_i k1 k' b _
    obtain ⟨⟨_, hw⟩, _⟩ := h
    have hlt : b < 2 ^ k1.format.width := by
      cases k1 <;> simp only [Lit.wf, decide_eq_true_eq] at hw <;> exact hw
    exact ⟨⟨b, hlt, rfl⟩, ⟨b, rfl, hlt, rfl⟩⟩

theorem one_int {t : TypeId} {k : IntKind} {fuel : Nat} {c : Value} {x : DataW H × List MemPlace} {base : Nat} {spare : Nat → Bool} {held : Bool} (ht : P.underlying t = some (.int k))
    (h : DataW.trod enc P w base spare held fuel t [c] = some x) : Iw k (cellI c) ∧ c = .int k (cellI c) := by
  obtain ⟨n, hc, _, hw⟩ := DataW.trod_int ht h
  simp only [List.cons.injEq, and_true] at hc
  subst hc
  simp only [Lit.wf, Bool.and_eq_true, decide_eq_true_eq] at hw
  exact ⟨hw, rfl⟩
theorem one_bool {t : TypeId} {fuel : Nat} {c : Value} {x : DataW H × List MemPlace} {base : Nat} {spare : Nat → Bool} {held : Bool} (ht : P.underlying t = some .bool)
    (h : DataW.trod enc P w base spare held fuel t [c] = some x) : c = .bool (cellB c) := by
  obtain ⟨n, hc, _⟩ := DataW.trod_bool ht h
  simp only [List.cons.injEq, and_true] at hc
  subst hc
  rfl

theorem row_floats {t e : TypeId} {k : FloatKind} {fuel : Nat} {c : Value} {x : DataW H × List MemPlace} (ht : P.underlying t = some (.slice e)) (hc : P.cellsOf e = 1) (he : P.underlying e = some (.float k))
    (h : DataW.trod enc P w 0 (fun _ => true) true fuel t [c] = some x) :
    ((rowOf w c).map (cellF k)).length ≤ maxLen ∧ (∀ y ∈ (rowOf w c).map (cellF k), Fw k y) ∧
      SRow (topGh w) w .imm 0 ((rowOf w c).map (cellF k)).length (fun i z => FR k (((rowOf w c).map (cellF k)).getD i 0) z) c := by
  obtain ⟨h1, h2, h3⟩ := slice_open ht hc h
  refine ⟨by simpa using h1, ?_, ?_⟩
  · intro y hy
    obtain ⟨u, hu, rfl⟩ := List.mem_map.1 hy
    obtain ⟨n, z, hz⟩ := h2 u hu
    exact (one_float he hz).1
  · rw [List.length_map]
    refine h3 _ fun j u hj => ?_
    obtain ⟨n, z, hz⟩ := h2 u (List.mem_of_getElem? hj)
    have : ((rowOf w c).map (cellF k)).getD j 0 = cellF k u := by simp [List.getD, hj]
    rw [this]
    exact (one_float he hz).2

theorem open_cell {t : TypeId} {ct : CT} {fuel : Nat} {c : Value} {x : DataW H × List MemPlace} (hct : cellTy P t = some ct)
    (h : DataW.trod enc P w 0 (fun _ => true) true fuel t [c] = some x) : ∃ v, Shape ct v ∧ VR (topGh w) w v c := by
  unfold cellTy at hct
  split at hct
  · rename_i ht; cases hct
    exact ⟨.b (cellB c), ⟨_, rfl⟩, one_bool ht h⟩
  · rename_i k ht; cases hct
    obtain ⟨h1, h2⟩ := one_int ht h
    exact ⟨.i k (cellI c), ⟨_, rfl, h1⟩, h2, h1.1, h1.2⟩
  · rename_i k ht; cases hct
    obtain ⟨h1, h2⟩ := one_float ht h
    exact ⟨.f k (cellF k c), ⟨_, rfl, h1⟩, h2⟩
  · rename_i e ht
    split at hct
    · rename_i hc
      split at hct
      · rename_i he; cases hct
        obtain ⟨h1, h2, h3⟩ := slice_open ht hc h
        refine ⟨.sl .imm 0 (.b ((rowOf w c).map cellB)), ⟨_, rfl, by simpa using h1⟩, ?_⟩
        simp only [VR, Cont.len, List.length_map]
        refine h3 _ fun j u hj => ?_
        obtain ⟨n, z, hz⟩ := h2 u (List.mem_of_getElem? hj)
        have : ((rowOf w c).map cellB).getD j false = cellB u := by simp [List.getD, hj]
        simp only [Cont.ok, this]
        exact one_bool he hz
      · rename_i k he; cases hct
        obtain ⟨h1, h2, h3⟩ := slice_open ht hc h
        refine ⟨.sl .imm 0 (.i k ((rowOf w c).map cellI)), ⟨_, rfl, by simpa using h1, ?_⟩, ?_⟩
        · intro y hy
          obtain ⟨u, hu, rfl⟩ := List.mem_map.1 hy
          obtain ⟨n, z, hz⟩ := h2 u hu
          exact (one_int he hz).1
        · simp only [VR, Cont.len, List.length_map]
          refine h3 _ fun j u hj => ?_
          obtain ⟨n, z, hz⟩ := h2 u (List.mem_of_getElem? hj)
          have : ((rowOf w c).map cellI).getD j 0 = cellI u := by simp [List.getD, hj]
          simp only [Cont.ok, this]
          obtain ⟨h4, h5⟩ := one_int he hz
          exact ⟨h5, h4.1, h4.2⟩
      · rename_i k he; cases hct
        obtain ⟨h1, h2, h3⟩ := row_floats ht hc he h
        exact ⟨.sl .imm 0 (.f k ((rowOf w c).map (cellF k))), ⟨_, rfl, h1, h2⟩, h3⟩
      · rename_i e' he
        split at hct
        · rename_i hc'
          split at hct
          · rename_i k he'; cases hct
            obtain ⟨h1, h2, h3⟩ := slice_open ht hc h
            refine ⟨.sl .imm 0 (.ff k ((rowOf w c).map fun u => (rowOf w u).map (cellF k))), ⟨_, rfl, by simpa using h1, ?_⟩, ?_⟩
            · intro y hy
              obtain ⟨u, hu, rfl⟩ := List.mem_map.1 hy
              obtain ⟨n, z, hz⟩ := h2 u hu
              obtain ⟨g1, g2, _⟩ := row_floats he hc' he' hz
              exact ⟨g1, g2⟩
            · simp only [VR, Cont.len, List.length_map]
              refine h3 _ fun j u hj => ?_
              obtain ⟨n, z, hz⟩ := h2 u (List.mem_of_getElem? hj)
              have : ((rowOf w c).map fun u => (rowOf w u).map (cellF k)).getD j [] = (rowOf w u).map (cellF k) := by simp [List.getD, hj]
              simp only [Cont.ok, this]
              exact (row_floats he hc' he' hz).2.2
          · cases hct
        · cases hct
      · cases hct
    · cases hct
  · cases hct

theorem open_fields {n : Nat} : ∀ {fs : List Field} {cts : List CT} {m : Nat} {cs : List Value}, fieldsTy P m fs = some cts → cs.length = m + fs.length →
    (∀ f ∈ fs, ∃ y, DataW.trod enc P w 0 (fun _ => true) true n f.type ((cs.drop f.offset).take (P.cellsOf f.type)) = some y) → ∃ xs, Shapes cts xs ∧ VL (topGh w) w xs (cs.drop m)
  | [], cts, m, cs, hf, hl, h => by
    cases hf
    exact ⟨[], rfl, by simp [VL]; simp at hl; omega⟩
  | f :: r, cts, m, cs, hf, hl, h => by
    unfold fieldsTy at hf
    split at hf
    · rename_i ho
      obtain ⟨ho, hone⟩ := ho
      split at hf
      · rename_i c cs' hc hr
        cases hf
        obtain ⟨y, hy⟩ := h f (by simp)
        have hlt : m < cs.length := by simp at hl; omega
        have hd : cs.drop m = cs[m] :: cs.drop (m + 1) := List.drop_eq_getElem_cons hlt
        rw [ho, hone, hd, List.take_succ_cons, List.take_zero] at hy
        obtain ⟨v, hv, hvr⟩ := open_cell hc hy
        obtain ⟨xs, hxs, hvl⟩ := open_fields hr (by simp at hl; omega) (fun f' hf' => h f' (by simp [hf']))
        exact ⟨v :: xs, ⟨v, xs, rfl, hv, hxs⟩, by rw [hd]; exact ⟨_, _, rfl, hvr, hvl⟩⟩
      · cases hf
    · cases hf

theorem open_arg {r : Reach} {b0 : Nat} {t : TypeId} {ty : TY} {v : Value} {d : DataW H} {ps : List MemPlace} (hty : tyOf P t = some ty) (hval : Value.okWide P w r b0 t v)
    (h : DataW.Trod enc P w 0 (fun _ => true) true t v d ps) : ∃ x, ShapeT ty x ∧ VR (topGh w) w x v := by
  obtain ⟨fuel, h⟩ := h
  unfold tyOf at hty
  split at hty
  · rename_i fs hs
    split at hty
    · rename_i hsz
      split at hty
      · rename_i cts hcts; cases hty
        obtain ⟨cs, rfl, hl⟩ := okWide_struct hs hval
        obtain ⟨xs, n, _, _, hl', hlen, hf⟩ := DataW.trod_struct hs h
        obtain ⟨ys, hys, hvl⟩ := open_fields (enc := enc) (n := n) (cs := cs.toList) hcts (by simp [hl, hsz]) (fun f hf' => by
          obtain ⟨j, hj⟩ := List.getElem?_of_mem hf'
          have hj' : j < fs.toList.length := (List.getElem?_eq_some_iff.1 hj).1
          have := hf j f (by simpa using hj)
          simp only [Value.cells] at this
          rw [this]
          exact ⟨_, List.getElem?_eq_getElem (by simp at hj' hlen ⊢; omega)⟩)
        exact ⟨.agg ys, ⟨ys, rfl, hys⟩, cs, rfl, by simpa using hvl⟩
      · cases hty
    · cases hty
  · rename_i hns
    split at hty
    · rename_i c hc; cases hty
      have hv : v.cells.toList = [v] := by
        unfold cellTy at hc
        split at hc
        · rename_i ht; obtain ⟨b, rfl⟩ := okWide_bool ht hval; rfl
        · rename_i k ht; obtain ⟨b, rfl⟩ := okWide_int ht hval; rfl
        · rename_i k ht; obtain ⟨b, rfl⟩ := okWide_float ht hval; rfl
        · rename_i e ht; obtain ⟨a, l, c, rfl⟩ := okWide_slice ht hval; rfl
        · cases hc
      rw [hv] at h
      exact open_cell hc h
    · cases hty

theorem open_args {r : Reach} {b0 : Nat} : ∀ {ts : List TypeId} {tys : List TY} {vs : List Value} {ds : List (DataW H)} {ps : List MemPlace}, allSome (ts.map (tyOf P)) = some tys →
    (∀ (j : Nat) t v, ts[j]? = some t → vs[j]? = some v → Value.okWide P w r b0 t v) → DataW.TrodAll enc P w 0 (fun _ => true) true ts vs ds ps → ∃ xs, ShapesT tys xs ∧ VL (topGh w) w xs vs
  | [], tys, vs, ds, ps, hty, _, h => by
    obtain ⟨rfl, rfl, rfl⟩ := trodAll_nil h
    cases hty
    exact ⟨[], rfl, rfl⟩
  | t :: ts, tys, vs, ds, ps, hty, hval, h => by
    obtain ⟨v, vs', d, ds', p, q, rfl, rfl, rfl, hd, hrest⟩ := trodAll_cons h
    simp only [List.map_cons] at hty
    cases h1 : tyOf P t with
    | none => rw [h1] at hty; simp [allSome] at hty
    | some ty =>
      rw [h1] at hty
      simp only [allSome] at hty
      split at hty
      · rename_i tys' h2; cases hty
        obtain ⟨x, hx, hvr⟩ := open_arg h1 (hval 0 t v rfl rfl) hd
        obtain ⟨xs, hxs, hvl⟩ := open_args h2 (fun j t' v' hj hj' => hval (j + 1) t' v' (by simpa using hj) (by simpa using hj')) hrest
        exact ⟨x :: xs, ⟨x, xs, rfl, hx, hxs⟩, v, vs', rfl, hvr, hvl⟩
      · cases hty

theorem shape_known {c : CT} {x : AV} (h : Shape c x) : x.known = true := by
  cases c <;> simp only [Shape] at h
  all_goals first
    | (obtain ⟨_, rfl⟩ := h; rfl)
    | (obtain ⟨_, rfl, _⟩ := h; rfl)
theorem shapes_known : ∀ {cs : List CT} {xs : List AV}, Shapes cs xs → AV.knownL xs = true
  | [], xs, h => by cases h; rfl
  | c :: cs, xs, h => by
    obtain ⟨x, ys, rfl, hx, hy⟩ := h
    simp [AV.knownL, shape_known hx, shapes_known hy]
theorem shapesT_known : ∀ {cs : List TY} {xs : List AV}, ShapesT cs xs → AV.knownL xs = true
  | [], xs, h => by cases h; rfl
  | .one c :: cs, xs, h => by
    obtain ⟨x, ys, rfl, hx, hy⟩ := h
    simp [AV.knownL, shape_known hx, shapesT_known hy]
  | .st c :: cs, xs, h => by
    obtain ⟨x, ys, rfl, ⟨zs, rfl, hz⟩, hy⟩ := h
    simp [AV.knownL, AV.known, shapes_known hz, shapesT_known hy]

theorem top_simG (w : World) : SimG ⟨w.heap.size, w, fun _ => False, fun _ => none, fun b => b < w.heap.size, fun _ => Fam.no, fun _ => False⟩ (topGh w) w :=
  ⟨⟨rfl, rfl, rfl, Nat.le_refl _, Nat.le_refl _, fun _ _ _ => rfl, fun _ c _ _ h => ⟨c, h, rfl⟩⟩, fun n i b o h => h.elim, fun n i m j b o b' o' h => h.elim, fun b h => ⟨h, fun h => h⟩, fun p b o h => (by simp [topGh] at h), fun b h => h.elim, rfl, fun b h => .inl h⟩

theorem trodAll_carry (hl : laidOutB P = true) {W W' : World} (hb : Below W.heap.size W W') : ∀ {ts : List TypeId} {vs : List Value} {ds : List (DataW H)} {ps : List MemPlace}, (ts.all fun t => P.readableRec t && decide (t < P.types.size)) = true →
    DataW.TrodAll enc P W 0 (fun _ => true) true ts vs ds ps → (∀ x ∈ ps, x.block < W.heap.size) → ∀ sp : Nat → Bool, (∀ p ∈ ps, sp p.block = true) → DataW.TrodAll enc P W' 0 sp true ts vs ds ps
  | [], vs, ds, ps, _, h, _, sp, _ => by obtain ⟨rfl, rfl, rfl⟩ := trodAll_nil h; rfl
  | t :: ts, vs, ds, ps, hc, h, hlt, sp, hsp => by
    obtain ⟨v, vs', d, ds', p, q, rfl, rfl, rfl, hd, hrest⟩ := trodAll_cons h
    simp only [List.all_cons, Bool.and_eq_true, decide_eq_true_eq] at hc
    refine ⟨p, q, ?_, trodAll_carry hl hb (by simpa using hc.2) hrest (fun x hx => hlt x (by simp [hx])) sp (fun x hx => hsp x (by simp [hx])), rfl⟩
    exact WideElems.Trod_stays hl hc.1.1 hc.1.2 hd (fun x hx => hb.same (hlt x (by simp [hx]))) (fun x hx => hsp x (by simp [hx]))

/-- as 'post_of_same', with the places of the reading alone asked for -/
theorem post_of_same' {f : Func} {s : ChangeSpec} {apart fresh handsOn again : Bool} {W W' : World} {args : Array Value} {v : Value} {ds gs : List (DataW H)} {before pa pv : List MemPlace}
    (hW : DataW.Whole enc P f.params.toList s.vars apart W args.toList ds gs before)
    (hres : ∀ (b : Nat) (sp : Nat → Bool) (hd : Bool), DataW.TrodAll enc P W' b sp hd f.resultTypes.toList (v.resultList f.resultTypes.size) (s.fn H (ds ++ gs)).results [])
    (hargs : ∀ sp : Nat → Bool, (∀ p ∈ before, sp p.block = true) → DataW.TrodAll enc P W' 0 sp true f.params.toList args.toList (s.fn H (ds ++ gs)).args pa)
    (hvars : ∀ sp : Nat → Bool, (∀ p ∈ before, sp p.block = true) → DataW.TrodVars enc P W' sp s.vars (s.fn H (ds ++ gs)).vars pv)
    (hps : before = pa ++ pv) (hk : W.keptBut W' (· ∈ before)) (hfz : ∀ b off, MemPlace.cell b off ∈ before → W'.frozen? ⟨b, off, none⟩ = W.frozen? ⟨b, off, none⟩)
    (hok : ∀ (j : Nat) (t : TypeId) (r : Value), f.resultTypes[j]? = some t → (v.resultList f.resultTypes.size)[j]? = some r → Value.okWide P W' .any 0 t r) :
    s.post enc P f apart fresh handsOn again W args v W' := by
  have hold : ∀ p ∈ before, (fun b => decide (b < W.heap.size)) p.block = true := fun p hp => by simpa using hW.lt p hp
  refine ⟨ds, gs, before, [], pa, pv, hW, hres _ _ _, hargs _ hold, hvars _ hold, World.keptBut_mono (fun p hp => ⟨hp, ?_⟩) hk, fun _ => ?_⟩
  · rw [hps, List.mem_append] at hp
    exact Or.inr hp
  · obtain ⟨_, _, _, _, _, hz, hn⟩ := hW
    refine ⟨hok, _, _, ([] ++ pa) ++ pv, ⟨[] ++ pa, pv, trodAll_append (hargs _ (fun _ _ => rfl)) (hres _ _ _), hvars _ (fun _ _ => rfl), rfl, ?_, ?_⟩, ?_⟩
    · intro b off hp
      have hp' : MemPlace.cell b off ∈ before := by rw [hps]; simpa using hp
      rw [hfz b off hp']
      exact hz b off hp'
    · intro ha
      have := hn ha
      rw [hps] at this
      simpa using this
    · intro p hp _
      rw [hps]
      simpa using hp

/-- THE ROW's STEP: what a law's contract gives. -/
theorem law_post {f : FuncId} {fn : Func} {tys : List TY} {s : ChangeSpec} (hl : laidOutB P = true) (hty : allSome (fn.params.toList.map (tyOf P)) = some tys)
    (hrd : (fn.params.toList.all fun t => P.readableRec t && decide (t < P.types.size)) = true) (hvars : s.vars = [])
    (hspec : ∀ (H : Type) (ds : List (DataW H)), ds.length = fn.params.size → s.fn H ds = { results := [.lit (.bool true)], args := ds })
    {rt : TypeId} (hrt : fn.resultTypes = #[rt]) (hbool : P.underlying rt = some .bool)
    (hen : ∀ (vs : Array Value) (w : World), (callFunc f vs).run P w = .ok (.enter f vs) w) (hlaw : ∀ xs, ShapesT tys xs → VCall P f (AV.viewL [] 0 xs) (.b true))
    (enc : TypeId × Value → H) (W : World) (base : Nat) (args : Array Value) (ds gs : List (DataW H)) (before : List MemPlace)
    (hval : ∀ (j : Nat) t v, fn.params[j]? = some t → args[j]? = some v → Value.okWide P W .any base t v)
    (hW : DataW.Whole enc P fn.params.toList s.vars false W args.toList ds gs before) :
    Calls P f args W fun e W' => ∃ v, e = .returned v ∧ s.post enc P fn false true false false W args v W' := by
  have hW' := hW
  obtain ⟨p, q, hA, hV, hpq, hfz, hnd⟩ := hW
  have hlen := trodAll_length hA
  rw [hvars] at hV
  obtain ⟨rfl, rfl⟩ := trodVars_none hV
  simp only [List.append_nil] at hpq
  subst hpq
  have hlt : ∀ x ∈ before, x.block < W.heap.size := fun x hx => hW'.lt x (by simpa using hx)
  obtain ⟨xs, hxs, hvl⟩ := open_args hty (fun j t v hj hj' => hval j t v (by simpa using hj) (by simpa using hj')) hA
  have hs := top_simG W
  have hview := viewL_ok hs (J := (topGh W).imm) (fun _ h => h) (π := fun q => match q with | j :: q => (match args.toList[j]? with | some u => inHeap W (addr W q u) | none => none) | [] => none) xs [] 0 args.toList hvl (shapesT_known hxs) (.inr fun b h => h)
    (fun i q u hu => by simp only [List.nil_append, Nat.zero_add, hu])
  have hcall := ((hlaw xs hxs).N rfl).runs W (topGh W).imm _ args (fun b h => h) (fun p b o h => by
    split at h
    · split at h
      · unfold inHeap at h
        split at h
        · split at h
          · rename_i hb; cases h; exact hb
          · cases h
        · cases h
      · cases h
    · cases h) hview
  have hcall := hcall.resolve_right (fun ⟨v, w', h, _⟩ => by rw [hen] at h; cases h) |>.2
  refine hcall.mono fun e W' ⟨v, G', he, hG, hr⟩ => ?_
  simp only [VR] at hr
  subst he; subst hr
  have hbel : Below W.heap.size W W' := ⟨hG.kept.os, hG.kept.tape, hG.kept.output, hG.kept.size, fun k hk => hG.kept.block k hk (fun h => h)⟩
  have hsp := hspec H (ds ++ []) (by simpa using hlen.2)
  refine ⟨_, rfl, post_of_same' (pa := before) (pv := []) hW' ?_ ?_ ?_ (by simp) (hbel.frame _) ?_ (RowKit.ok_one hrt rfl (okWide_bool_mk hbool _))⟩
  · intro b sp hd
    rw [hsp, hrt]
    exact trodAll_cons_mk (shut_bool hbool _) trodAll_mk0
  · intro sp hsp'
    rw [hsp]
    simp only [List.append_nil]
    exact trodAll_carry hl hbel hrd hA hlt sp (fun x hx => hsp' x (by simpa using hx))
  · intro sp hsp'
    rw [hsp, hvars]
    rfl
  · intro b off hp
    exact hbel.frozen (p := ⟨b, off, none⟩) (hlt (.cell b off) hp)
end
end Go.Proofs.LV
