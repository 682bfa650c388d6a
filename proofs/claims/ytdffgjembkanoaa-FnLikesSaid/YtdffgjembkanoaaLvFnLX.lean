/- Texts that belong together. -/
import Derived.Test.YtdffgjembkanoaaLvFnJ
import Derived.Test.YtdffgjembkanoaaLvFnO
import Derived.Test.YtdffgjembkanoaaLvBad
import Derived.Test.YtdffgjembkanoaaLvFnDX
namespace Go.Proofs.LV
open Go
set_option linter.unusedVariables false
set_option linter.unusedSimpArgs false

def stL (xs : List Nat) (k : Nat) : Nat := meanM (xs.take k)
def stS (xs : List Nat) (k : Nat) : Nat := if 2 * k ≤ xs.length then fdiv .f32 (fsub .f32 (meanM ((xs.drop k).take k)) (stL xs k)) (fofi .f32 k) else 0
def stX (xs : List Nat) (k : Nat) : List Nat := if k = 1 then [0] else lessOneM (xs.take k) (stL xs k)
def stOk (xs : List Nat) (per : Int) : Bool := seriesM xs && (inM per 1 24 && (decide (per ≤ xs.length) && validStateM (stL xs per.toNat) (stS xs per.toNat) (stX xs per.toNat) 0))
def iv (b : Bool) (x : Nat) : Nat := if b = true then x else 0
def ivi (b : Bool) (x : Int) : Int := if b = true then x else 0
def ivl (b : Bool) (x : List Nat) : List Nat := if b = true then x else []






theorem stX_len (xs : List Nat) (k : Nat) (h1 : 1 ≤ k) (h : k ≤ xs.length) : (stX xs k).length = k := by
  unfold stX
  split
  · rename_i h; simp [h]
  · rw [lessOne_len, List.length_take]; omega

end Go.Proofs.LV

namespace Go.Proofs.LV
open Go
set_option linter.unusedVariables false
set_option linter.unusedSimpArgs false

def ssE (l s : Nat) (xs : List Nat) (t : Int) (d x : Nat) : Nat := fsub .f32 x (guessM l s xs t d)
def ssL (l s : Nat) (xs : List Nat) (t : Int) (a b c d x : Nat) : Nat := fadd .f32 (fadd .f32 l (fmul .f32 d s)) (fmul .f32 a (ssE l s xs t d x))
def ssS (l s : Nat) (xs : List Nat) (t : Int) (a b c d x : Nat) : Nat := fadd .f32 (fmul .f32 d s) (fmul .f32 (fmul .f32 a b) (ssE l s xs t d x))
def ssX (l s : Nat) (xs : List Nat) (t : Int) (a b c d x : Nat) : List Nat := xs.set t.toNat (fadd .f32 (xs.getD t.toNat 0) (fmul .f32 (fmul .f32 c (fsub .f32 1065353216 a)) (ssE l s xs t d x)))
def ssT (xs : List Nat) (t : Int) : Int := Int.tmod (IntKind.wrap .i64 (t + 1)) xs.length
def ssOk (l s : Nat) (xs : List Nat) (t : Int) (a b c d x : Nat) : Bool := (validStateM l s xs t && sharesM a b c d) && (finM x && (validStateM (ssL l s xs t a b c d x) (ssS l s xs t a b c d x) (ssX l s xs t a b c d x) (ssT xs t) && finM (ssE l s xs t d x)))



theorem valid_t {l s : Nat} {xs : List Nat} {t : Int} (h : validStateM l s xs t = true) : (0 ≤ t ∧ t < xs.length) ∧ xs.length ≤ 24 := by
  simp [validStateM, inM] at h
  omega
theorem ss_len (l s : Nat) (xs : List Nat) (t : Int) (a b c d x : Nat) : (ssX l s xs t a b c d x).length = xs.length := by simp [ssX]
theorem ss_bad {l s : Nat} {xs : List Nat} {t : Int} {d x : Nat} (hx : finM x = true) (h : finM (guessM l s xs t d) = false) : finM (ssE l s xs t d x) = false := bad_sub hx h
end Go.Proofs.LV

namespace Go.Proofs.LV
open Go
set_option linter.unusedVariables false
set_option linter.unusedSimpArgs false

structure SSt where
  l : Nat
  s : Nat
  xs : List Nat
  t : Int
def SSt.next (q : SSt) (a b c d x : Nat) : SSt := ⟨ssL q.l q.s q.xs q.t a b c d x, ssS q.l q.s q.xs q.t a b c d x, ssX q.l q.s q.xs q.t a b c d x, ssT q.xs q.t⟩
def runS (a b c d : Nat) (list : List Nat) (q : SSt) : Nat → SSt
  | 0 => q
  | k + 1 => (runS a b c d list q k).next a b c d (list.getD k 0)
def gssN (a b c d : Nat) (list : List Nat) (q : SSt) (k : Nat) : Nat := guessM (runS a b c d list q k).l (runS a b c d list q k).s (runS a b c d list q k).xs (runS a b c d list q k).t d
def misN (a b c d : Nat) (list : List Nat) (q : SSt) (k : Nat) : Nat := ssE (runS a b c d list q k).l (runS a b c d list q k).s (runS a b c d list q k).xs (runS a b c d list q k).t d (list.getD k 0)
def okN (a b c d : Nat) (list : List Nat) (q : SSt) (k : Nat) : Bool := validStateM (runS a b c d list q (k + 1)).l (runS a b c d list q (k + 1)).s (runS a b c d list q (k + 1)).xs (runS a b c d list q (k + 1)).t && finM (misN a b c d list q k)
def runFin (a b c d : Nat) (list : List Nat) (q : SSt) : Bool := allN list.length fun k => okN a b c d list q k
def runOk (a b c d : Nat) (list : List Nat) (q : SSt) : Bool := (seriesM list && (validStateM q.l q.s q.xs q.t && sharesM a b c d)) && runFin a b c d list q
def runG (a b c d : Nat) (list : List Nat) (q : SSt) : List Nat := tab list.length fun k => gssN a b c d list q k
def runMs (a b c d : Nat) (list : List Nat) (q : SSt) : List Nat := tab list.length fun k => misN a b c d list q k
def runZ (a b c d : Nat) (list : List Nat) (q : SSt) : SSt := runS a b c d list q list.length






/-- all go on; what went before is known -/
theorem for_allS {VC : FuncId → List AV → AV → Prop} {ps : List Nat} {id : Nat} {b : VCode} {e e' : Ex} {σ0 σ1 : Env} (c : Nat → Bool) (m : Nat) (st : Nat → Env) (ha : allN m c = true) (h0 : σ0 = st 0)
    (h : ∀ i, i < m → (∀ j, j < i → c j = true) → c i = true → Exec VC ps b (st i) .normal (st (i + 1))) (he : Exec VC ps b (st m) e σ1) (hne : e ≠ .normal := by simp) (hx : e.inBlock id = e' := by rfl) : Exec VC ps (.block id (.loop b)) σ0 e' σ1 :=
  for_up m st h0 (fun i hi => h i hi (fun j hj => allN_iff.1 ha j (by omega)) (allN_iff.1 ha i hi)) he hne hx
theorem for_oneS {VC : FuncId → List AV → AV → Prop} {ps : List Nat} {id : Nat} {b : VCode} {e e' : Ex} {σ0 σ1 : Env} (c : Nat → Bool) (m : Nat) (st : Nat → Env) (ha : allN m c = false) (h0 : σ0 = st 0)
    (h : ∀ i, i < m → (∀ j, j < i → c j = true) → c i = true → Exec VC ps b (st i) .normal (st (i + 1))) (he : ∀ i, i < m → (∀ j, j < i → c j = true) → c i = false → Exec VC ps b (st i) e σ1) (hne : e ≠ .normal := by simp) (hx : e.inBlock id = e' := by rfl) : Exec VC ps (.block id (.loop b)) σ0 e' σ1 := by
  obtain ⟨i, hi, h2, h3⟩ := allN_not ha
  exact for_up i st h0 (fun j hj => h j (by omega) (fun k hk => h3 k (by omega)) (h3 j hj)) (he i hi h3 h2) hne hx
theorem run_inv {a b c d : Nat} {list : List Nat} {q : SSt} (h : (0 ≤ q.t ∧ q.t < q.xs.length) ∧ q.xs.length ≤ 24) : ∀ k, (0 ≤ (runS a b c d list q k).t ∧ (runS a b c d list q k).t < (runS a b c d list q k).xs.length) ∧ (runS a b c d list q k).xs.length ≤ 24
  | 0 => h
  | k + 1 => by
    obtain ⟨⟨h1, h2⟩, h3⟩ := run_inv (a := a) (b := b) (c := c) (d := d) (list := list) h k
    have el : (runS a b c d list q (k + 1)).xs.length = (runS a b c d list q k).xs.length := ss_len _ _ _ _ a b c d (list.getD k 0)
    have et : (runS a b c d list q (k + 1)).t = Int.tmod (IntKind.wrap .i64 ((runS a b c d list q k).t + 1)) (runS a b c d list q k).xs.length := rfl
    rw [el, et, wrap64_id (by omega) (by omega), Int.tmod_eq_emod_of_nonneg (by omega)]
    refine ⟨⟨Int.emod_nonneg _ (by omega), Int.emod_lt_of_pos _ (by omega)⟩, h3⟩
theorem run_cur {a b c d : Nat} {list : List Nat} {q : SSt} (h : validStateM q.l q.s q.xs q.t = true) : ∀ k, (∀ j, j < k → okN a b c d list q j = true) → validStateM (runS a b c d list q k).l (runS a b c d list q k).s (runS a b c d list q k).xs (runS a b c d list q k).t = true
  | 0, _ => h
  | k + 1, hp => by
    have := hp k (by omega)
    unfold okN at this
    exact ((Bool.and_eq_true _ _).mp this).1
theorem run_ok {a b c d : Nat} {list : List Nat} {q : SSt} {k : Nat} (h : validStateM (runS a b c d list q k).l (runS a b c d list q k).s (runS a b c d list q k).xs (runS a b c d list q k).t = true) (h2 : sharesM a b c d = true) (h3 : finM (list.getD k 0) = true) :
    ssOk (runS a b c d list q k).l (runS a b c d list q k).s (runS a b c d list q k).xs (runS a b c d list q k).t a b c d (list.getD k 0) = okN a b c d list q k := by
  unfold ssOk
  rw [h, h2, h3]
  rfl
section
variable {P : Program}
end

end Go.Proofs.LV

namespace Go.Proofs.LV
open Go
set_option linter.unusedVariables false
set_option linter.unusedSimpArgs false

section
variable (K : Nat → Int)

/-- the numbers from a up to b are in order -/
def SR (l : List Nat) (a b : Nat) : Prop := ∀ i j, a ≤ i → i < j → j < b → K (l.getD i 0) ≤ K (l.getD j 0)
/-- the same numbers, equals in the same order -/
def same (l l' : List Nat) : Prop := ∀ k : Int, l'.filter (fun x => decide (K x = k)) = l.filter (fun x => decide (K x = k))
structure Rel (a b : Nat) (l l' : List Nat) : Prop where
  len : l'.length = l.length
  out : ∀ i, i < a ∨ b ≤ i → l'.getD i 0 = l.getD i 0
  all : ∀ p : Nat → Prop, (∀ i, a ≤ i → i < b → p (l.getD i 0)) → ∀ i, a ≤ i → i < b → p (l'.getD i 0)
  cls : same K l l'
variable {K}
theorem Rel.refl (a b : Nat) (l : List Nat) : Rel K a b l l := ⟨rfl, fun _ _ => rfl, fun _ h => h, fun _ => rfl⟩
theorem Rel.trans {a b : Nat} {l m n : List Nat} (h1 : Rel K a b l m) (h2 : Rel K a b m n) : Rel K a b l n :=
  ⟨h2.len.trans h1.len, fun i hi => (h2.out i hi).trans (h1.out i hi), fun p hp => h2.all p (h1.all p hp), fun k => (h2.cls k).trans (h1.cls k)⟩
theorem Rel.widen {a b a' b' : Nat} {l m : List Nat} (h : Rel K a b l m) (h1 : a' ≤ a) (h2 : b ≤ b') : Rel K a' b' l m := by
  refine ⟨h.len, fun i hi => h.out i (by omega), fun p hp i h3 h4 => ?_, h.cls⟩
  by_cases hi : a ≤ i ∧ i < b
  · exact h.all p (fun j h5 h6 => hp j (by omega) (by omega)) i hi.1 hi.2
  · rw [h.out i (by omega)]; exact hp i h3 h4

theorem ext_getD {l m : List Nat} (hl : l.length = m.length) (h : ∀ i, i < l.length → l.getD i 0 = m.getD i 0) : l = m := by
  refine List.ext_getElem? fun i => ?_
  by_cases hi : i < l.length
  · have := h i hi
    simp only [List.getD, List.getElem?_eq_getElem hi, List.getElem?_eq_getElem (hl ▸ hi : i < m.length), Option.getD_some] at this ⊢
    rw [this]
  · rw [List.getElem?_eq_none (by omega), List.getElem?_eq_none (by omega)]
theorem getD_mem {l : List Nat} {i : Nat} (h : i < l.length) : l.getD i 0 ∈ l := by
  rw [List.getD_eq_getElem?_getD, List.getElem?_eq_getElem h]; exact List.getElem_mem h
theorem mem_getD {l : List Nat} {x : Nat} (h : x ∈ l) : ∃ i, i < l.length ∧ l.getD i 0 = x := by
  obtain ⟨i, hi, rfl⟩ := List.getElem_of_mem h
  exact ⟨i, hi, by rw [List.getD_eq_getElem?_getD, List.getElem?_eq_getElem hi]; rfl⟩
theorem getD_takeR (l : List Nat) (b i : Nat) (h : i < b) : (l.take b).getD i 0 = l.getD i 0 := by
  simp only [List.getD_eq_getElem?_getD, List.getElem?_take, h, if_true]
/-- the numbers from a up to b -/
def part (l : List Nat) (a b : Nat) : List Nat := (l.take b).drop a
theorem part_len (l : List Nat) (a b : Nat) (h : b ≤ l.length) : (part l a b).length = b - a := by simp [part]; omega
theorem part_get (l : List Nat) (a b i : Nat) (h : a + i < b) : (part l a b).getD i 0 = l.getD (a + i) 0 := by
  unfold part
  rw [getD_drop', getD_takeR _ _ _ h]
theorem split3 (l : List Nat) (a b : Nat) (h1 : a ≤ b) (h2 : b ≤ l.length) : l = l.take a ++ (part l a b ++ l.drop b) := by
  unfold part
  conv => lhs; rw [← List.take_append_drop b l]
  rw [← List.append_assoc]
  congr 1
  conv => lhs; rw [← List.take_append_drop a (l.take b)]
  rw [List.take_take, Nat.min_eq_left h1]

/-! ### in order, equals kept: there is one such list -/
theorem same_mem {l m : List Nat} (h : same K l m) {x : Nat} : x ∈ m ↔ x ∈ l := by
  have := h (K x)
  constructor
  · intro hx
    have : x ∈ m.filter (fun y => decide (K y = K x)) := by simp [hx]
    rw [h (K x)] at this
    exact (List.mem_filter.1 this).1
  · intro hx
    have : x ∈ l.filter (fun y => decide (K y = K x)) := by simp [hx]
    rw [← h (K x)] at this
    exact (List.mem_filter.1 this).1
theorem sort_unique : ∀ {l m : List Nat}, l.Pairwise (fun x y => K x ≤ K y) → m.Pairwise (fun x y => K x ≤ K y) → same K l m → l = m
  | [], m, _, _, hs => by
    cases m with
    | nil => rfl
    | cons y m => have := (same_mem hs (x := y)).1 (by simp); cases this
  | x :: l, [], _, _, hs => by have := (same_mem hs (x := x)).2 (by simp); cases this
  | x :: l, y :: m, h1, h2, hs => by
    obtain ⟨h1a, h1b⟩ := List.pairwise_cons.1 h1
    obtain ⟨h2a, h2b⟩ := List.pairwise_cons.1 h2
    have hxy : K x = K y := by
      have a1 : K x ≤ K y := by
        rcases List.mem_cons.1 ((same_mem hs (x := y)).1 (by simp)) with h | h
        · rw [h]; exact Int.le_refl _
        · exact h1a y h
      have a2 : K y ≤ K x := by
        rcases List.mem_cons.1 ((same_mem hs (x := x)).2 (by simp)) with h | h
        · rw [h]; exact Int.le_refl _
        · exact h2a x h
      omega
    have he : x = y := by
      have := hs (K x)
      rw [List.filter_cons, List.filter_cons] at this
      simp [hxy] at this
      exact this.1.symm
    subst he
    congr 1
    refine sort_unique h1b h2b fun k => ?_
    have := hs k
    rw [List.filter_cons, List.filter_cons] at this
    split at this
    · exact List.cons.inj this |>.2
    · exact this
variable (K)
/-- x goes behind all that are not greater -/
def ins (x : Nat) : List Nat → List Nat
  | [] => [x]
  | y :: r => if K x < K y then x :: y :: r else y :: ins x r
def sortM : List Nat → List Nat
  | [] => []
  | x :: r => let s := sortM r; insFirst x s
where
  /-- x goes ahead of all that are not less -/
  insFirst (x : Nat) : List Nat → List Nat
  | [] => [x]
  | y :: r => if K y < K x then y :: insFirst x r else x :: y :: r
variable {K}
theorem insFirst_same (x : Nat) : ∀ l : List Nat, same K (x :: l) (sortM.insFirst K x l)
  | [] => fun _ => rfl
  | y :: r => by
    unfold sortM.insFirst
    split
    · rename_i h
      intro k
      have ih := insFirst_same x r k
      rw [List.filter_cons, ih, List.filter_cons, List.filter_cons, List.filter_cons]
      by_cases h1 : K x = k <;> by_cases h2 : K y = k <;> simp [h1, h2] <;> omega
    · exact fun _ => rfl
theorem insFirst_mem {x z : Nat} {l : List Nat} (h : z ∈ sortM.insFirst K x l) : z = x ∨ z ∈ l := by
  have := (same_mem (insFirst_same (K := K) x l)).1 h
  simpa using this
theorem insFirst_sorted (x : Nat) : ∀ l : List Nat, l.Pairwise (fun x y => K x ≤ K y) → (sortM.insFirst K x l).Pairwise (fun x y => K x ≤ K y)
  | [], _ => by simp [sortM.insFirst]
  | y :: r, h => by
    obtain ⟨ha, hb⟩ := List.pairwise_cons.1 h
    unfold sortM.insFirst
    split
    · rename_i hlt
      refine List.pairwise_cons.2 ⟨fun z hz => ?_, insFirst_sorted x r hb⟩
      rcases insFirst_mem hz with rfl | hz
      · omega
      · exact ha z hz
    · rename_i hlt
      refine List.pairwise_cons.2 ⟨fun z hz => ?_, h⟩
      rcases List.mem_cons.1 hz with rfl | hz
      · omega
      · have := ha z hz; omega
theorem sortM_same : ∀ l : List Nat, same K l (sortM K l)
  | [] => fun _ => rfl
  | x :: r => by
    intro k
    have h1 := insFirst_same (K := K) x (sortM K r) k
    have h2 := sortM_same r k
    show (sortM.insFirst K x (sortM K r)).filter _ = _
    rw [h1, List.filter_cons, List.filter_cons, h2]
theorem sortM_sorted : ∀ l : List Nat, (sortM K l).Pairwise (fun x y => K x ≤ K y)
  | [] => .nil
  | x :: r => insFirst_sorted x _ (sortM_sorted r)
theorem same_len {l m : List Nat} (h : same K l m) : m.length = l.length := by
  have key : ∀ n : Nat, ∀ l m : List Nat, l.length ≤ n → same K l m → m.length = l.length := by
    intro n
    induction n with
    | zero =>
      intro l m hn h
      have : l = [] := List.length_eq_zero_iff.1 (by omega)
      subst this
      cases m with
      | nil => rfl
      | cons y m => have := (same_mem h (x := y)).1 (by simp); cases this
    | succ n ih =>
      intro l m hn h
      cases l with
      | nil =>
        cases m with
        | nil => rfl
        | cons y m => have := (same_mem h (x := y)).1 (by simp); cases this
      | cons x l =>
        -- all of x's class go
        have e : ∀ q : List Nat, q.length = (q.filter (fun y => decide (K y = K x))).length + (q.filter (fun y => !decide (K y = K x))).length := by
          intro q
          induction q with
          | nil => rfl
          | cons y q ihq => rw [List.filter_cons, List.filter_cons]; by_cases hy : K y = K x <;> simp [hy] <;> omega
        have h1 := ih ((x :: l).filter (fun y => !decide (K y = K x))) (m.filter (fun y => !decide (K y = K x))) (by
            have hx : ((x :: l).filter (fun y => !decide (K y = K x))) = l.filter (fun y => !decide (K y = K x)) := by rw [List.filter_cons]; simp
            rw [hx]
            have := List.length_filter_le (fun y => !decide (K y = K x)) l
            simp at hn
            omega) (by
            intro k
            rw [List.filter_filter, List.filter_filter]
            have hk := h k
            have aux : ∀ q : List Nat, q.filter (fun a => decide (K a = k) && !decide (K a = K x)) = if k = K x then [] else q.filter (fun a => decide (K a = k)) := by
              intro q
              split
              · rename_i hk; subst hk
                refine List.filter_eq_nil_iff.2 fun a _ => by simp
              · rename_i hk
                refine List.filter_congr fun a _ => ?_
                by_cases ha : K a = k <;> simp [ha, hk]
            rw [aux, aux, hk])
        rw [e m, e (x :: l), h (K x), h1]
  exact key l.length l m (Nat.le_refl _) h

/-- the numbers from a up to b put in order -/
def srt (K : Nat → Int) (l : List Nat) (a b : Nat) : List Nat := l.take a ++ (sortM K (part l a b) ++ l.drop b)
theorem SR_pairwise {l : List Nat} {a b : Nat} (hb : b ≤ l.length) : SR K l a b ↔ (part l a b).Pairwise (fun x y => K x ≤ K y) := by
  rw [List.pairwise_iff_getElem]
  have hl := part_len l a b hb
  constructor
  · intro h i j hi hj hij
    have := h (a + i) (a + j) (by omega) (by omega) (by omega)
    rw [← part_get l a b i (by omega), ← part_get l a b j (by omega)] at this
    simpa [List.getD_eq_getElem?_getD, List.getElem?_eq_getElem hi, List.getElem?_eq_getElem hj] using this
  · intro h i j hi hij hj
    have := h (i - a) (j - a) (by omega) (by omega) (by omega)
    have e1 := part_get l a b (i - a) (by omega)
    have e2 := part_get l a b (j - a) (by omega)
    rw [show a + (i - a) = i by omega] at e1
    rw [show a + (j - a) = j by omega] at e2
    rw [← e1, ← e2]
    simpa [List.getD_eq_getElem?_getD, List.getElem?_eq_getElem (show i - a < (part l a b).length by omega), List.getElem?_eq_getElem (show j - a < (part l a b).length by omega)] using this
theorem same_append {l l' m m' : List Nat} (h1 : same K l l') (h2 : same K m m') : same K (l ++ m) (l' ++ m') := by
  intro k; rw [List.filter_append, List.filter_append, h1 k, h2 k]
theorem srt_unique {l m : List Nat} {a b : Nat} (hab : a ≤ b) (hb : b ≤ l.length) (h : Rel K a b l m) (hs : SR K m a b) : m = srt K l a b := by
  have hbm : b ≤ m.length := by rw [h.len]; exact hb
  have e1 : m.take a = l.take a := by
    refine ext_getD (by simp [h.len]) fun i hi => ?_
    have hi' : i < a := by simp at hi; omega
    rw [getD_takeR _ _ _ hi', getD_takeR _ _ _ hi']
    exact h.out i (.inl hi')
  have e2 : m.drop b = l.drop b := by
    refine ext_getD (by simp [h.len]) fun i hi => ?_
    rw [getD_drop', getD_drop']
    exact h.out _ (.inr (by omega))
  have hp : same K (part l a b) (part m a b) := by
    intro k
    have := h.cls k
    rw [split3 m a b hab hbm, split3 l a b hab hb, e1, e2] at this
    simp only [List.filter_append] at this
    have := List.append_cancel_left this
    exact List.append_cancel_right this
  have : part m a b = sortM K (part l a b) := by
    refine sort_unique ((SR_pairwise hbm).1 hs) (sortM_sorted _) fun k => ?_
    rw [sortM_same, hp k]
  rw [split3 m a b hab hbm, e1, e2, this]; rfl
theorem srt_rel {l : List Nat} {a b : Nat} (hab : a ≤ b) (hb : b ≤ l.length) : Rel K a b l (srt K l a b) ∧ SR K (srt K l a b) a b := by
  have hl : (sortM K (part l a b)).length = b - a := by rw [same_len (sortM_same _), part_len _ _ _ hb]
  have hlen : (srt K l a b).length = l.length := by simp [srt, hl]; omega
  have hta : (l.take a).length = a := by simp; omega
  have hg : ∀ i, a ≤ i → i < b → (srt K l a b).getD i 0 = (sortM K (part l a b)).getD (i - a) 0 := by
    intro i h1 h2
    simp only [srt, List.getD_eq_getElem?_getD]
    rw [List.getElem?_append_right (by omega), List.getElem?_append_left (by omega), hta]
  have hpart : part (srt K l a b) a b = sortM K (part l a b) := by
    refine ext_getD (by rw [part_len _ _ _ (by omega), hl]) fun i hi => ?_
    rw [part_len _ _ _ (by omega)] at hi
    rw [part_get _ _ _ _ (by omega), hg _ (by omega) (by omega), Nat.add_sub_cancel_left]
  refine ⟨⟨hlen, fun i hi => ?_, fun p hp i h1 h2 => ?_, ?_⟩, ?_⟩
  · rcases hi with hi | hi
    · simp only [srt, List.getD_eq_getElem?_getD]
      rw [List.getElem?_append_left (by omega), List.getElem?_take, if_pos hi]
    · simp only [srt, List.getD_eq_getElem?_getD]
      rw [List.getElem?_append_right (by omega), List.getElem?_append_right (by omega), List.getElem?_drop, hta, hl]
      congr 2; omega
  · rw [hg i h1 h2]
    have hm : (sortM K (part l a b)).getD (i - a) 0 ∈ part l a b := (same_mem (sortM_same _)).1 (getD_mem (by omega))
    obtain ⟨j, hj, hje⟩ := mem_getD hm
    rw [part_len _ _ _ hb] at hj
    rw [← hje, part_get _ _ _ _ (by omega)]
    exact hp _ (by omega) (by omega)
  · conv => arg 2; rw [split3 l a b hab hb]
    exact same_append (fun _ => rfl) (same_append (sortM_same _) (fun _ => rfl))
  · rw [SR_pairwise (by omega), hpart]; exact sortM_sorted _
theorem srt_len (l : List Nat) (a b : Nat) (hab : a ≤ b) (hb : b ≤ l.length) : (srt K l a b).length = l.length := (srt_rel (K := K) hab hb).1.len
theorem srt_all (l : List Nat) : srt K l 0 l.length = sortM K l := by simp [srt, part]
theorem srt_nop {l : List Nat} {a b : Nat} (hab : a ≤ b) (hb : b ≤ l.length) (h : SR K l a b) : srt K l a b = l := (srt_unique hab hb (Rel.refl a b l) h).symm
theorem srt_small (l : List Nat) (a b : Nat) (h1 : a ≤ b) (h2 : b ≤ a + 1) (hb : b ≤ l.length) : srt K l a b = l := srt_nop h1 hb fun i j h3 h4 h5 => by omega
end
end Go.Proofs.LV
