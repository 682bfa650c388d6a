/- Texts that belong together. -/
import Derived.Test.YtjfgmnfkkehgfaaLvFnGX
import Derived.Test.YtjfgmnfkkehgfaaLvBad
namespace Go.Proofs.LV
open Go
set_option linter.unusedVariables false
set_option linter.unusedSimpArgs false

abbrev C_math_sqrt (P : Program) (f : FuncId) : Prop := ∀ x : Nat, VCall P f [.f .f64 x] (.f .f64 (fsqrt x))
theorem k_math_sqrt {P : Program} {f : FuncId} (h : ExtIs P f Extern.MathSqrt.sqrt) : C_math_sqrt P f := fun x => sqrt_ok h x
def oc1_math_sqrt (as : List AV) : T AV := match as with | [.f _ x] => .leaf (.f .f64 (fsqrt x)) | _ => .fail





def spreadM (xs : List Nat) : Nat := rootM (fdiv .f32 (squaresM xs) (fofi .f32 xs.length))
def spOk (xs : List Nat) : Bool := seriesM xs && finM (spreadM xs)




def evenM (xs : List Nat) : List Nat := tab xs.length fun i => fdiv .f32 (fsub .f32 (xs.getD i 0) (meanM xs)) (spreadM xs)
def evenOk (xs : List Nat) : Bool := seriesM xs && ((finM (spreadM xs) && fgt .f32 (spreadM xs) 0) && finAllM (evenM xs))



theorem root_unfold (x : Nat) : fconv .f64 .f32 (fsqrt (fconv .f32 .f64 x)) = rootM x := rfl
theorem series_fin {xs : List Nat} (h : seriesM xs = true) {i : Nat} (hi : i < xs.length) : finM (xs.getD i 0) = true := by
  simp only [seriesM, Bool.and_eq_true, finAllM, List.all_eq_true] at h
  refine h.2.2 _ ?_
  rw [List.getD_eq_getElem?_getD, List.getElem?_eq_getElem hi]
  exact List.getElem_mem hi
theorem acc_bad {f : Nat → Nat → Nat} {a : Nat} : ∀ n : Nat, 1 ≤ n → (∀ i s, finM (f i s) = false) → finM (accN f n a) = false
  | 0, h, _ => by omega
  | n + 1, _, hf => hf n _
/-- a spread that is finite comes of a mean that is -/
theorem mean_of_spread {xs : List Nat} (hs : seriesM xs = true) (h : finM (spreadM xs) = true) : finM (meanM xs) = true := by
  cases hm : finM (meanM xs) with
  | true => rfl
  | false =>
    exfalso
    have hl := series_len hs
    have hsq : finM (squaresM xs) = false := by
      unfold squaresM dotM
      have e : (lessOneM xs (meanM xs)).length = (xs.length - 1) + 1 := by rw [lessOne_len]; omega
      rw [e]
      simp only [accN]
      refine bad_add (bad_square ?_)
      rw [lessOne_get _ _ _ (by omega)]
      exact bad_sub (series_fin hs (by omega)) hm
    have hd : finM (fdiv .f32 (squaresM xs) (fofi .f32 xs.length)) = false := bad_div hsq (small_fin ⟨xs.length, by omega⟩)
    have := bad_root hd
    unfold spreadM at h
    rw [this] at h; cases h
theorem even_get (xs : List Nat) (i : Nat) (h : i < xs.length) : (evenM xs).getD i 0 = fdiv .f32 (fsub .f32 (xs.getD i 0) (meanM xs)) (spreadM xs) := tab_get _ _ _ _ h
theorem even_len (xs : List Nat) : (evenM xs).length = xs.length := tab_len _ _
end Go.Proofs.LV

namespace Go.Proofs.LV
open Go
set_option linter.unusedVariables false
set_option linter.unusedSimpArgs false


def plUp (r q : List Nat) (k : Nat) : Nat := accN (fun j s => fadd .f32 s (fmul .f32 (q.getD j 0) (r.getD (k - (j + 1)) 0))) (k - 1) 0
def plDown (r q : List Nat) (k : Nat) : Nat := accN (fun j s => fadd .f32 s (fmul .f32 (q.getD j 0) (r.getD (j + 1) 0))) (k - 1) 0
def plBot (r q : List Nat) (k : Nat) : Nat := fsub .f32 1065353216 (plDown r q k)
def plX (r q : List Nat) (k : Nat) : Nat := fdiv .f32 (fsub .f32 (r.getD k 0) (plUp r q k)) (plBot r q k)
def upP (r p : List Nat) (k : Nat) : Nat := accN (fun j s => fadd .f32 s (fmul .f32 (p.getD (j + 1) 0) (r.getD (k - (j + 1)) 0))) (k - 1) 0
def dnP (r p : List Nat) (k : Nat) : Nat := accN (fun j s => fadd .f32 s (fmul .f32 (p.getD (j + 1) 0) (r.getD (j + 1) 0))) (k - 1) 0
def xP (r p : List Nat) (k : Nat) : Nat := fdiv .f32 (fsub .f32 (r.getD k 0) (upP r p k)) (fsub .f32 1065353216 (dnP r p k))
def plQ (r : List Nat) : Nat → List Nat
  | 0 => []
  | k + 1 => (tab k fun j => fsub .f32 ((plQ r k).getD j 0) (fmul .f32 (plX r (plQ r k) (k + 1)) ((plQ r k).getD (k - 1 - j) 0))) ++ [plX r (plQ r k) (k + 1)]
def plM (r : List Nat) (m : Nat) : List Nat := tab m fun k => plX r (plQ r k) (k + 1)
def plFin (r : List Nat) (m : Nat) : Bool := allN m fun k => !feq .f32 (plBot r (plQ r k) (k + 1)) 0
def plOk (a : List Nat) (most : Int) : Bool := likesOk a most && (plFin (likesM a most.toNat) most.toNat && finAllM (plM (likesM a most.toNat) most.toNat))



end Go.Proofs.LV

namespace Go.Proofs.LV
open Go
set_option linter.unusedVariables false
set_option linter.unusedSimpArgs false

def stL (xs : List Nat) (k : Nat) : Nat := meanM (xs.take k)
def stS (xs : List Nat) (k : Nat) : Nat := if 2 * k ≤ xs.length then fdiv .f32 (fsub .f32 (meanM ((xs.drop k).take k)) (stL xs k)) (fofi .f32 k) else 0
def stX (xs : List Nat) (k : Nat) : List Nat := if k = 1 then [0] else lessOneM (xs.take k) (stL xs k)
def stOk (xs : List Nat) (per : Int) : Bool := seriesM xs && (inM per 1 24 && (decide (per ≤ xs.length) && validStateM (stL xs per.toNat) (stS xs per.toNat) (stX xs per.toNat) 0))
def iv (b : Bool) (x : Nat) : Nat := if b = true then x else 0
def ivi (b : Bool) (x : Int) : Int := if b = true then x else 0
def ivl (b : Bool) (x : List Nat) : List Nat := if b = true then x else []






theorem stX_len (xs : List Nat) (k : Nat) (h1 : 1 ≤ k) (h : k ≤ xs.length) : (stX xs k).length = k := by
  unfold stX
  split
  · rename_i h; simp [h]
  · rw [lessOne_len, List.length_take]; omega

end Go.Proofs.LV

namespace Go.Proofs.LV
open Go
set_option linter.unusedVariables false
set_option linter.unusedSimpArgs false

def ssE (l s : Nat) (xs : List Nat) (t : Int) (d x : Nat) : Nat := fsub .f32 x (guessM l s xs t d)
def ssL (l s : Nat) (xs : List Nat) (t : Int) (a b c d x : Nat) : Nat := fadd .f32 (fadd .f32 l (fmul .f32 d s)) (fmul .f32 a (ssE l s xs t d x))
def ssS (l s : Nat) (xs : List Nat) (t : Int) (a b c d x : Nat) : Nat := fadd .f32 (fmul .f32 d s) (fmul .f32 (fmul .f32 a b) (ssE l s xs t d x))
def ssX (l s : Nat) (xs : List Nat) (t : Int) (a b c d x : Nat) : List Nat := xs.set t.toNat (fadd .f32 (xs.getD t.toNat 0) (fmul .f32 (fmul .f32 c (fsub .f32 1065353216 a)) (ssE l s xs t d x)))
def ssT (xs : List Nat) (t : Int) : Int := Int.tmod (IntKind.wrap .i64 (t + 1)) xs.length
def ssOk (l s : Nat) (xs : List Nat) (t : Int) (a b c d x : Nat) : Bool := (validStateM l s xs t && sharesM a b c d) && (finM x && (validStateM (ssL l s xs t a b c d x) (ssS l s xs t a b c d x) (ssX l s xs t a b c d x) (ssT xs t) && finM (ssE l s xs t d x)))



theorem valid_t {l s : Nat} {xs : List Nat} {t : Int} (h : validStateM l s xs t = true) : (0 ≤ t ∧ t < xs.length) ∧ xs.length ≤ 24 := by
  simp [validStateM, inM] at h
  omega
theorem ss_len (l s : Nat) (xs : List Nat) (t : Int) (a b c d x : Nat) : (ssX l s xs t a b c d x).length = xs.length := by simp [ssX]
theorem ss_bad {l s : Nat} {xs : List Nat} {t : Int} {d x : Nat} (hx : finM x = true) (h : finM (guessM l s xs t d) = false) : finM (ssE l s xs t d x) = false := bad_sub hx h
end Go.Proofs.LV

namespace Go.Proofs.LV
open Go
set_option linter.unusedVariables false
set_option linter.unusedSimpArgs false

structure SSt where
  l : Nat
  s : Nat
  xs : List Nat
  t : Int
def SSt.next (q : SSt) (a b c d x : Nat) : SSt := ⟨ssL q.l q.s q.xs q.t a b c d x, ssS q.l q.s q.xs q.t a b c d x, ssX q.l q.s q.xs q.t a b c d x, ssT q.xs q.t⟩
def runS (a b c d : Nat) (list : List Nat) (q : SSt) : Nat → SSt
  | 0 => q
  | k + 1 => (runS a b c d list q k).next a b c d (list.getD k 0)
def gssN (a b c d : Nat) (list : List Nat) (q : SSt) (k : Nat) : Nat := guessM (runS a b c d list q k).l (runS a b c d list q k).s (runS a b c d list q k).xs (runS a b c d list q k).t d
def misN (a b c d : Nat) (list : List Nat) (q : SSt) (k : Nat) : Nat := ssE (runS a b c d list q k).l (runS a b c d list q k).s (runS a b c d list q k).xs (runS a b c d list q k).t d (list.getD k 0)
def okN (a b c d : Nat) (list : List Nat) (q : SSt) (k : Nat) : Bool := validStateM (runS a b c d list q (k + 1)).l (runS a b c d list q (k + 1)).s (runS a b c d list q (k + 1)).xs (runS a b c d list q (k + 1)).t && finM (misN a b c d list q k)
def runFin (a b c d : Nat) (list : List Nat) (q : SSt) : Bool := allN list.length fun k => okN a b c d list q k
def runOk (a b c d : Nat) (list : List Nat) (q : SSt) : Bool := (seriesM list && (validStateM q.l q.s q.xs q.t && sharesM a b c d)) && runFin a b c d list q
def runG (a b c d : Nat) (list : List Nat) (q : SSt) : List Nat := tab list.length fun k => gssN a b c d list q k
def runMs (a b c d : Nat) (list : List Nat) (q : SSt) : List Nat := tab list.length fun k => misN a b c d list q k
def runZ (a b c d : Nat) (list : List Nat) (q : SSt) : SSt := runS a b c d list q list.length






/-- all go on; what went before is known -/
theorem for_allS {VC : FuncId → List AV → AV → Prop} {ps : List Nat} {id : Nat} {b : VCode} {e e' : Ex} {σ0 σ1 : Env} (c : Nat → Bool) (m : Nat) (st : Nat → Env) (ha : allN m c = true) (h0 : σ0 = st 0)
    (h : ∀ i, i < m → (∀ j, j < i → c j = true) → c i = true → Exec VC ps b (st i) .normal (st (i + 1))) (he : Exec VC ps b (st m) e σ1) (hne : e ≠ .normal := by simp) (hx : e.inBlock id = e' := by rfl) : Exec VC ps (.block id (.loop b)) σ0 e' σ1 :=
  for_up m st h0 (fun i hi => h i hi (fun j hj => allN_iff.1 ha j (by omega)) (allN_iff.1 ha i hi)) he hne hx
theorem for_oneS {VC : FuncId → List AV → AV → Prop} {ps : List Nat} {id : Nat} {b : VCode} {e e' : Ex} {σ0 σ1 : Env} (c : Nat → Bool) (m : Nat) (st : Nat → Env) (ha : allN m c = false) (h0 : σ0 = st 0)
    (h : ∀ i, i < m → (∀ j, j < i → c j = true) → c i = true → Exec VC ps b (st i) .normal (st (i + 1))) (he : ∀ i, i < m → (∀ j, j < i → c j = true) → c i = false → Exec VC ps b (st i) e σ1) (hne : e ≠ .normal := by simp) (hx : e.inBlock id = e' := by rfl) : Exec VC ps (.block id (.loop b)) σ0 e' σ1 := by
  obtain ⟨i, hi, h2, h3⟩ := allN_not ha
  exact for_up i st h0 (fun j hj => h j (by omega) (fun k hk => h3 k (by omega)) (h3 j hj)) (he i hi h3 h2) hne hx
theorem run_inv {a b c d : Nat} {list : List Nat} {q : SSt} (h : (0 ≤ q.t ∧ q.t < q.xs.length) ∧ q.xs.length ≤ 24) : ∀ k, (0 ≤ (runS a b c d list q k).t ∧ (runS a b c d list q k).t < (runS a b c d list q k).xs.length) ∧ (runS a b c d list q k).xs.length ≤ 24
  | 0 => h
  | k + 1 => by
    obtain ⟨⟨h1, h2⟩, h3⟩ := run_inv (a := a) (b := b) (c := c) (d := d) (list := list) h k
    have el : (runS a b c d list q (k + 1)).xs.length = (runS a b c d list q k).xs.length := ss_len _ _ _ _ a b c d (list.getD k 0)
    have et : (runS a b c d list q (k + 1)).t = Int.tmod (IntKind.wrap .i64 ((runS a b c d list q k).t + 1)) (runS a b c d list q k).xs.length := rfl
    rw [el, et, wrap64_id (by omega) (by omega), Int.tmod_eq_emod_of_nonneg (by omega)]
    refine ⟨⟨Int.emod_nonneg _ (by omega), Int.emod_lt_of_pos _ (by omega)⟩, h3⟩
theorem run_cur {a b c d : Nat} {list : List Nat} {q : SSt} (h : validStateM q.l q.s q.xs q.t = true) : ∀ k, (∀ j, j < k → okN a b c d list q j = true) → validStateM (runS a b c d list q k).l (runS a b c d list q k).s (runS a b c d list q k).xs (runS a b c d list q k).t = true
  | 0, _ => h
  | k + 1, hp => by
    have := hp k (by omega)
    unfold okN at this
    exact ((Bool.and_eq_true _ _).mp this).1
theorem run_ok {a b c d : Nat} {list : List Nat} {q : SSt} {k : Nat} (h : validStateM (runS a b c d list q k).l (runS a b c d list q k).s (runS a b c d list q k).xs (runS a b c d list q k).t = true) (h2 : sharesM a b c d = true) (h3 : finM (list.getD k 0) = true) :
    ssOk (runS a b c d list q k).l (runS a b c d list q k).s (runS a b c d list q k).xs (runS a b c d list q k).t a b c d (list.getD k 0) = okN a b c d list q k := by
  unfold ssOk
  rw [h, h2, h3]
  rfl
section
variable {P : Program}
end

end Go.Proofs.LV
