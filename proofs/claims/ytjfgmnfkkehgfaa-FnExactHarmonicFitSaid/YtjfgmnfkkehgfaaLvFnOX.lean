/- Texts that belong together. -/
import Derived.Test.YtjfgmnfkkehgfaaLvFnMX
import Derived.Test.YtjfgmnfkkehgfaaLvFnGX
import Derived.Test.YtjfgmnfkkehgfaaLvBad
namespace Go.Proofs.LV
open Go
set_option linter.unusedVariables false
set_option linter.unusedSimpArgs false


def plUp (r q : List Nat) (k : Nat) : Nat := accN (fun j s => fadd .f32 s (fmul .f32 (q.getD j 0) (r.getD (k - (j + 1)) 0))) (k - 1) 0
def plDown (r q : List Nat) (k : Nat) : Nat := accN (fun j s => fadd .f32 s (fmul .f32 (q.getD j 0) (r.getD (j + 1) 0))) (k - 1) 0
def plBot (r q : List Nat) (k : Nat) : Nat := fsub .f32 1065353216 (plDown r q k)
def plX (r q : List Nat) (k : Nat) : Nat := fdiv .f32 (fsub .f32 (r.getD k 0) (plUp r q k)) (plBot r q k)
def upP (r p : List Nat) (k : Nat) : Nat := accN (fun j s => fadd .f32 s (fmul .f32 (p.getD (j + 1) 0) (r.getD (k - (j + 1)) 0))) (k - 1) 0
def dnP (r p : List Nat) (k : Nat) : Nat := accN (fun j s => fadd .f32 s (fmul .f32 (p.getD (j + 1) 0) (r.getD (j + 1) 0))) (k - 1) 0
def xP (r p : List Nat) (k : Nat) : Nat := fdiv .f32 (fsub .f32 (r.getD k 0) (upP r p k)) (fsub .f32 1065353216 (dnP r p k))
def plQ (r : List Nat) : Nat → List Nat
  | 0 => []
  | k + 1 => (tab k fun j => fsub .f32 ((plQ r k).getD j 0) (fmul .f32 (plX r (plQ r k) (k + 1)) ((plQ r k).getD (k - 1 - j) 0))) ++ [plX r (plQ r k) (k + 1)]
def plM (r : List Nat) (m : Nat) : List Nat := tab m fun k => plX r (plQ r k) (k + 1)
def plFin (r : List Nat) (m : Nat) : Bool := allN m fun k => !feq .f32 (plBot r (plQ r k) (k + 1)) 0
def plOk (a : List Nat) (most : Int) : Bool := likesOk a most && (plFin (likesM a most.toNat) most.toNat && finAllM (plM (likesM a most.toNat) most.toNat))



end Go.Proofs.LV

namespace Go.Proofs.LV
open Go
set_option linter.unusedVariables false
set_option linter.unusedSimpArgs false

def stL (xs : List Nat) (k : Nat) : Nat := meanM (xs.take k)
def stS (xs : List Nat) (k : Nat) : Nat := if 2 * k ≤ xs.length then fdiv .f32 (fsub .f32 (meanM ((xs.drop k).take k)) (stL xs k)) (fofi .f32 k) else 0
def stX (xs : List Nat) (k : Nat) : List Nat := if k = 1 then [0] else lessOneM (xs.take k) (stL xs k)
def stOk (xs : List Nat) (per : Int) : Bool := seriesM xs && (inM per 1 24 && (decide (per ≤ xs.length) && validStateM (stL xs per.toNat) (stS xs per.toNat) (stX xs per.toNat) 0))
def iv (b : Bool) (x : Nat) : Nat := if b = true then x else 0
def ivi (b : Bool) (x : Int) : Int := if b = true then x else 0
def ivl (b : Bool) (x : List Nat) : List Nat := if b = true then x else []






theorem stX_len (xs : List Nat) (k : Nat) (h1 : 1 ≤ k) (h : k ≤ xs.length) : (stX xs k).length = k := by
  unfold stX
  split
  · rename_i h; simp [h]
  · rw [lessOne_len, List.length_take]; omega

end Go.Proofs.LV

namespace Go.Proofs.LV
open Go
set_option linter.unusedVariables false
set_option linter.unusedSimpArgs false

def ssE (l s : Nat) (xs : List Nat) (t : Int) (d x : Nat) : Nat := fsub .f32 x (guessM l s xs t d)
def ssL (l s : Nat) (xs : List Nat) (t : Int) (a b c d x : Nat) : Nat := fadd .f32 (fadd .f32 l (fmul .f32 d s)) (fmul .f32 a (ssE l s xs t d x))
def ssS (l s : Nat) (xs : List Nat) (t : Int) (a b c d x : Nat) : Nat := fadd .f32 (fmul .f32 d s) (fmul .f32 (fmul .f32 a b) (ssE l s xs t d x))
def ssX (l s : Nat) (xs : List Nat) (t : Int) (a b c d x : Nat) : List Nat := xs.set t.toNat (fadd .f32 (xs.getD t.toNat 0) (fmul .f32 (fmul .f32 c (fsub .f32 1065353216 a)) (ssE l s xs t d x)))
def ssT (xs : List Nat) (t : Int) : Int := Int.tmod (IntKind.wrap .i64 (t + 1)) xs.length
def ssOk (l s : Nat) (xs : List Nat) (t : Int) (a b c d x : Nat) : Bool := (validStateM l s xs t && sharesM a b c d) && (finM x && (validStateM (ssL l s xs t a b c d x) (ssS l s xs t a b c d x) (ssX l s xs t a b c d x) (ssT xs t) && finM (ssE l s xs t d x)))



theorem valid_t {l s : Nat} {xs : List Nat} {t : Int} (h : validStateM l s xs t = true) : (0 ≤ t ∧ t < xs.length) ∧ xs.length ≤ 24 := by
  simp [validStateM, inM] at h
  omega
theorem ss_len (l s : Nat) (xs : List Nat) (t : Int) (a b c d x : Nat) : (ssX l s xs t a b c d x).length = xs.length := by simp [ssX]
theorem ss_bad {l s : Nat} {xs : List Nat} {t : Int} {d x : Nat} (hx : finM x = true) (h : finM (guessM l s xs t d) = false) : finM (ssE l s xs t d x) = false := bad_sub hx h
end Go.Proofs.LV

namespace Go.Proofs.LV
open Go
set_option linter.unusedVariables false
set_option linter.unusedSimpArgs false

structure SSt where
  l : Nat
  s : Nat
  xs : List Nat
  t : Int
def SSt.next (q : SSt) (a b c d x : Nat) : SSt := ⟨ssL q.l q.s q.xs q.t a b c d x, ssS q.l q.s q.xs q.t a b c d x, ssX q.l q.s q.xs q.t a b c d x, ssT q.xs q.t⟩
def runS (a b c d : Nat) (list : List Nat) (q : SSt) : Nat → SSt
  | 0 => q
  | k + 1 => (runS a b c d list q k).next a b c d (list.getD k 0)
def gssN (a b c d : Nat) (list : List Nat) (q : SSt) (k : Nat) : Nat := guessM (runS a b c d list q k).l (runS a b c d list q k).s (runS a b c d list q k).xs (runS a b c d list q k).t d
def misN (a b c d : Nat) (list : List Nat) (q : SSt) (k : Nat) : Nat := ssE (runS a b c d list q k).l (runS a b c d list q k).s (runS a b c d list q k).xs (runS a b c d list q k).t d (list.getD k 0)
def okN (a b c d : Nat) (list : List Nat) (q : SSt) (k : Nat) : Bool := validStateM (runS a b c d list q (k + 1)).l (runS a b c d list q (k + 1)).s (runS a b c d list q (k + 1)).xs (runS a b c d list q (k + 1)).t && finM (misN a b c d list q k)
def runFin (a b c d : Nat) (list : List Nat) (q : SSt) : Bool := allN list.length fun k => okN a b c d list q k
def runOk (a b c d : Nat) (list : List Nat) (q : SSt) : Bool := (seriesM list && (validStateM q.l q.s q.xs q.t && sharesM a b c d)) && runFin a b c d list q
def runG (a b c d : Nat) (list : List Nat) (q : SSt) : List Nat := tab list.length fun k => gssN a b c d list q k
def runMs (a b c d : Nat) (list : List Nat) (q : SSt) : List Nat := tab list.length fun k => misN a b c d list q k
def runZ (a b c d : Nat) (list : List Nat) (q : SSt) : SSt := runS a b c d list q list.length






/-- all go on; what went before is known -/
theorem for_allS {VC : FuncId → List AV → AV → Prop} {ps : List Nat} {id : Nat} {b : VCode} {e e' : Ex} {σ0 σ1 : Env} (c : Nat → Bool) (m : Nat) (st : Nat → Env) (ha : allN m c = true) (h0 : σ0 = st 0)
    (h : ∀ i, i < m → (∀ j, j < i → c j = true) → c i = true → Exec VC ps b (st i) .normal (st (i + 1))) (he : Exec VC ps b (st m) e σ1) (hne : e ≠ .normal := by simp) (hx : e.inBlock id = e' := by rfl) : Exec VC ps (.block id (.loop b)) σ0 e' σ1 :=
  for_up m st h0 (fun i hi => h i hi (fun j hj => allN_iff.1 ha j (by omega)) (allN_iff.1 ha i hi)) he hne hx
theorem for_oneS {VC : FuncId → List AV → AV → Prop} {ps : List Nat} {id : Nat} {b : VCode} {e e' : Ex} {σ0 σ1 : Env} (c : Nat → Bool) (m : Nat) (st : Nat → Env) (ha : allN m c = false) (h0 : σ0 = st 0)
    (h : ∀ i, i < m → (∀ j, j < i → c j = true) → c i = true → Exec VC ps b (st i) .normal (st (i + 1))) (he : ∀ i, i < m → (∀ j, j < i → c j = true) → c i = false → Exec VC ps b (st i) e σ1) (hne : e ≠ .normal := by simp) (hx : e.inBlock id = e' := by rfl) : Exec VC ps (.block id (.loop b)) σ0 e' σ1 := by
  obtain ⟨i, hi, h2, h3⟩ := allN_not ha
  exact for_up i st h0 (fun j hj => h j (by omega) (fun k hk => h3 k (by omega)) (h3 j hj)) (he i hi h3 h2) hne hx
theorem run_inv {a b c d : Nat} {list : List Nat} {q : SSt} (h : (0 ≤ q.t ∧ q.t < q.xs.length) ∧ q.xs.length ≤ 24) : ∀ k, (0 ≤ (runS a b c d list q k).t ∧ (runS a b c d list q k).t < (runS a b c d list q k).xs.length) ∧ (runS a b c d list q k).xs.length ≤ 24
  | 0 => h
  | k + 1 => by
    obtain ⟨⟨h1, h2⟩, h3⟩ := run_inv (a := a) (b := b) (c := c) (d := d) (list := list) h k
    have el : (runS a b c d list q (k + 1)).xs.length = (runS a b c d list q k).xs.length := ss_len _ _ _ _ a b c d (list.getD k 0)
    have et : (runS a b c d list q (k + 1)).t = Int.tmod (IntKind.wrap .i64 ((runS a b c d list q k).t + 1)) (runS a b c d list q k).xs.length := rfl
    rw [el, et, wrap64_id (by omega) (by omega), Int.tmod_eq_emod_of_nonneg (by omega)]
    refine ⟨⟨Int.emod_nonneg _ (by omega), Int.emod_lt_of_pos _ (by omega)⟩, h3⟩
theorem run_cur {a b c d : Nat} {list : List Nat} {q : SSt} (h : validStateM q.l q.s q.xs q.t = true) : ∀ k, (∀ j, j < k → okN a b c d list q j = true) → validStateM (runS a b c d list q k).l (runS a b c d list q k).s (runS a b c d list q k).xs (runS a b c d list q k).t = true
  | 0, _ => h
  | k + 1, hp => by
    have := hp k (by omega)
    unfold okN at this
    exact ((Bool.and_eq_true _ _).mp this).1
theorem run_ok {a b c d : Nat} {list : List Nat} {q : SSt} {k : Nat} (h : validStateM (runS a b c d list q k).l (runS a b c d list q k).s (runS a b c d list q k).xs (runS a b c d list q k).t = true) (h2 : sharesM a b c d = true) (h3 : finM (list.getD k 0) = true) :
    ssOk (runS a b c d list q k).l (runS a b c d list q k).s (runS a b c d list q k).xs (runS a b c d list q k).t a b c d (list.getD k 0) = okN a b c d list q k := by
  unfold ssOk
  rw [h, h2, h3]
  rfl
section
variable {P : Program}
end

end Go.Proofs.LV

namespace Go.Proofs.LV
open Go
set_option linter.unusedVariables false
set_option linter.unusedSimpArgs false

abbrev NW (n : Nat) (xss : LL) : AV := .nw n 0 .f32 xss none
/-- the numbers of the first n rows -/
def totN (xss : LL) (n : Nat) : Nat := accN (fun j s => s + (xss.getD j []).length) n 0
def msR (xss : LL) (k : Int) (j : Nat) : List Nat := marksM (xss.getD j []).length (k + totN xss j)
def marksSS (xss : LL) (k : Int) : LL := tab xss.length (msR xss k)
def szSS (xss : LL) (i : Int) : Int := if i < xss.length + totN xss xss.length then -1 else i - (xss.length + totN xss xss.length)






theorem totN_succ (xss : LL) (n : Nat) : totN xss (n + 1) = totN xss n + (xss.getD n []).length := rfl
theorem totN_le (xss : LL) : ∀ {n m : Nat}, n ≤ m → totN xss n ≤ totN xss m := by
  intro n m h
  induction h with
  | refl => exact Nat.le_refl _
  | step _ ih => rw [Nat.succ_eq_add_one, totN_succ]; omega
theorem row_tot (xss : LL) (i : Nat) (h : i < xss.length) : totN xss i + (xss.getD i []).length ≤ totN xss xss.length := by
  rw [← totN_succ]; exact totN_le xss h
theorem row_mem (xss : LL) (i : Nat) (h : i < xss.length) : xss.getD i [] ∈ xss := by
  simp [List.getD, h]
theorem marksSS_len (xss : LL) (k : Int) : (marksSS xss k).length = xss.length := tab_len _ _
theorem marksSS_get (xss : LL) (k : Int) (i : Nat) (h : i < xss.length) : (marksSS xss k).getD i [] = marksM (xss.getD i []).length (k + totN xss i) := tab_get _ _ _ _ h

theorem totN_marks (xss : LL) (k : Int) : ∀ {i : Nat}, i ≤ xss.length → totN (marksSS xss k) i = totN xss i := by
  intro i
  induction i with
  | zero => intro _; rfl
  | succ i ih => intro h; rw [totN_succ, totN_succ, ih (by omega), marksSS_get _ _ _ (by omega), marks_len]
end Go.Proofs.LV
