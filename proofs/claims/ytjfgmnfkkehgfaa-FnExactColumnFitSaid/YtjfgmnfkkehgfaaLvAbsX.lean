/- Texts that belong together. -/
import Derived.Test.YtjfgmnfkkehgfaaLvFnF
import Derived.Test.YtjfgmnfkkehgfaaLvOrd
namespace Go.Proofs.LV
open Go
set_option linter.unusedVariables false
set_option linter.unusedSimpArgs false

def absF (x : Nat) : Nat := fmax .f32 x (fneg .f32 x)
def sizF (x : Nat) : Nat := if flt .f32 x 0 = true then fneg .f32 x else x
-- FN impl_absolute
/-- impl.absolute: slots 7, results [.t 2]; calls []; names [(x, 0), (x, 1)] -/
def ps_impl_absolute : List Nat := [0, 2]
def b_impl_absolute : VCode :=
  (.seq
   (.region false [
    ⟨some 2, .mv, [.k (.f .f32 0)], none⟩])
   (.seq
    (.region false [
     ⟨some 3, .mv, [.t 0], none⟩,
     ⟨some 4, .mv, [.t 0], none⟩,
     ⟨some 5, .neg, [.t 4], none⟩,
     ⟨some 6, .max, [.t 3, .t 5], none⟩,
     ⟨some 2, .mv, [.t 6], none⟩])
    .ret))

abbrev Is_impl_absolute (P : Program) (g_f : FuncId) : Prop := FnIs P g_f 7 [.t 2] (b_impl_absolute)

abbrev C_impl_absolute (P : Program) (g_f : FuncId) : Prop := ∀ (x : Nat), VCall P g_f [.f .f32 x] (.f .f32 (absF x))
def oc1_impl_absolute (as : List AV) : T AV := match as with | [.f .f32 x] => .leaf (.f .f32 (absF x)) | _ => .fail



theorem q_impl_absolute {P : Program} {g_f : FuncId} (h_ : Is_impl_absolute P g_f) (x : Nat) (ht : T.ok (fun x_ => x_ = .f .f32 (absF x)) (
      T.leaf (AV.f FloatKind.f32 (fmax FloatKind.f32 x (fneg FloatKind.f32 x))))) :
    VCall P g_f [.f .f32 x] (.f .f32 (absF x)) := h_.call_of ps_impl_absolute ⟨fun _ _ => .fail, fun _ _ => none⟩ (by kernel_rfl) ht

-- END impl_absolute
-- FN spec_l03Size
/-- spec.l03Size: slots 8, results [.t 2]; calls []; names [(x, 0), (x, 1)] -/
def ps_spec_l03Size : List Nat := [0, 2, 4]
def b_spec_l03Size : VCode :=
  (.seq
   (.region false [
    ⟨some 2, .mv, [.k (.f .f32 0)], none⟩])
   (.seq
    (.seq
     (.region false [
      ⟨some 3, .mv, [.t 0], none⟩,
      ⟨some 4, (.bin .lss), [.t 3, .k (.f .f32 0)], none⟩])
     (.cond (.t 4)
      (.seq
       (.region false [
        ⟨some 5, .mv, [.t 0], none⟩,
        ⟨some 6, .neg, [.t 5], none⟩,
        ⟨some 2, .mv, [.t 6], none⟩])
       .ret)
      .skip))
    (.seq
     (.region false [
      ⟨some 7, .mv, [.t 0], none⟩,
      ⟨some 2, .mv, [.t 7], none⟩])
     .ret)))

abbrev Is_spec_l03Size (P : Program) (g_f : FuncId) : Prop := FnIs P g_f 8 [.t 2] (b_spec_l03Size)

abbrev C_spec_l03Size (P : Program) (g_f : FuncId) : Prop := ∀ (x : Nat), VCall P g_f [.f .f32 x] (.f .f32 (sizF x))
def oc1_spec_l03Size (as : List AV) : T AV := match as with | [.f .f32 x] => .leaf (.f .f32 (sizF x)) | _ => .fail



theorem q_spec_l03Size {P : Program} {g_f : FuncId} (h_ : Is_spec_l03Size P g_f) (x : Nat) (ht : T.ok (fun x_ => x_ = .f .f32 (sizF x)) (
      T.ite (flt FloatKind.f32 x 0) (T.leaf (AV.f FloatKind.f32 (fneg FloatKind.f32 x))) (T.leaf (AV.f FloatKind.f32 x)))) :
    VCall P g_f [.f .f32 x] (.f .f32 (sizF x)) := h_.call_of ps_spec_l03Size ⟨fun _ _ => .fail, fun _ _ => none⟩ (by kernel_rfl) ht

-- END spec_l03Size

theorem k_impl_absolute {P : Program} {f : FuncId} (h : Is_impl_absolute P f) : C_impl_absolute P f := by
  intro x
  refine q_impl_absolute h x ?_
  repeat' (first | with_reducible refine T.ok_ob ?_ (fun _ => ?_) | with_reducible refine T.ok_ite (fun _ => ?_) (fun _ => ?_) | with_reducible refine T.ok_leaf ?_)
  all_goals first | with_reducible rfl | with_reducible assumption | contradiction | exact fconvOk_32_64 _ | assumption | exact rfl | (simp_all []; done) | (simp_all [T.ok]; omega)

theorem k_spec_l03Size {P : Program} {f : FuncId} (h : Is_spec_l03Size P f) : C_spec_l03Size P f := by
  intro x
  refine q_spec_l03Size h x ?_
  unfold sizF
  repeat' (first | with_reducible refine T.ok_ob ?_ (fun _ => ?_) | with_reducible refine T.ok_ite (fun _ => ?_) (fun _ => ?_) | with_reducible refine T.ok_leaf ?_)
  · rename_i hc; rw [if_pos hc]
  · rename_i hc; rw [if_neg (by rw [hc]; decide)]
theorem fsub_fw (k : FloatKind) (x y : Nat) : Fw k (fsub k x y) := by
  unfold fsub
  cases h : k.format.sub x y with
  | none => exact ⟨fnan k, by cases k <;> decide, by cases k <;> decide⟩
  | some r => exact ⟨r, (sub_some h).2, (sub_some h).1⟩
theorem neg_srung {x : Nat} (h : nanB .f32 x = false) : srung .f32 (fneg .f32 x) = - srung .f32 x ∧ nanB .f32 (fneg .f32 x) = false := by
  have h1 : (FloatKind.f32.format.read x).isNaN = false := h
  have e : fneg .f32 x = x ^^^ 2 ^ 31 := by
    unfold fneg; rw [h1]; simp only [Bool.false_eq_true, if_false]
    unfold Op.negFloat
    rw [show FloatKind.f32.format.exponentBits + FloatKind.f32.format.fractionBits = 31 by decide]
  have hS : Ieee.single.signWeight = 2 ^ 31 := by decide
  have h2 : rung Ieee.single (fneg .f32 x) = rung Ieee.single x := by
    rw [e]; unfold rung; rw [hS, Nat.xor_mod_two_pow, Nat.mod_self, Nat.xor_zero]
  have h3 : sign Ieee.single (fneg .f32 x) = !(sign Ieee.single x) := by
    rw [e]; unfold sign; rw [hS, Nat.xor_div_two_pow, Nat.div_self (by decide)]
    generalize x / 2 ^ 31 = d
    have h4 : (d ^^^ 1) % 2 = d % 2 ^^^ 1 % 2 := Nat.xor_mod_two_pow (n := 1)
    rw [h4]
    rcases Nat.mod_two_eq_zero_or_one d with h5 | h5 <;> rw [h5] <;> rfl
  refine ⟨?_, ?_⟩
  · show sg (sign Ieee.single _) (rung Ieee.single _) = - sg (sign Ieee.single x) (rung Ieee.single x)
    rw [h2, h3]
    cases sign Ieee.single x <;> simp [sg]
  · rw [nanB_iff] at h ⊢
    show decide (Ieee.single.infRung < rung Ieee.single (fneg .f32 x)) = false
    rw [h2]; exact h
end Go.Proofs.LV

namespace Go.Proofs.LV
open Go
set_option linter.unusedVariables false
set_option linter.unusedSimpArgs false

/-- how many of p, p + per, .. lie below i -/
def cntM (i p per : Nat) : Nat := i / per + (if p < i % per then 1 else 0)
def fsumM (xs : List Nat) (per p n : Nat) : Nat := accN (fun j s => fadd .f32 s (xs.getD (p + j * per) 0)) n 0
def foldM (xs : List Nat) (per : Nat) : List Nat := tab per fun p => fdiv .f32 (fsumM xs per p (cntM xs.length p per)) (fofi .f32 (cntM xs.length p per))
def leftM (xs means : List Nat) : Nat := accN (fun i s => fadd .f32 s (fmul .f32 (fsub .f32 (xs.getD i 0) (means.getD (i % means.length) 0)) (fsub .f32 (xs.getD i 0) (means.getD (i % means.length) 0)))) xs.length 0

theorem cnt_lt (n p per j : Nat) (hp : p < per) : j < cntM n p per ↔ p + j * per < n := by
  have h1 := Nat.div_add_mod n per
  have h2 := Nat.mod_lt n (show per > 0 by omega)
  unfold cntM
  generalize n / per = q at *
  generalize n % per = r at *
  have a := fun (x y : Nat) (h : x ≤ y) => Nat.mul_le_mul_right per h
  have hc := Nat.mul_comm per q
  split
  · constructor
    · intro h
      have := a j q (by omega); omega
    · intro h
      apply Decidable.byContradiction; intro h'
      have := a (q + 1) j (by omega)
      rw [Nat.succ_mul] at this; omega
  · constructor
    · intro h
      have := a (j + 1) q (by omega)
      rw [Nat.succ_mul] at this; omega
    · intro h
      apply Decidable.byContradiction; intro h'
      have := a q j (by omega); omega
theorem cnt_next (i p per : Nat) (hp : p < per) : cntM (i + 1) p per = cntM i p per + (if i % per = p then 1 else 0) := by
  have h1 := Nat.div_add_mod i per
  have h2 := Nat.mod_lt i (show per > 0 by omega)
  unfold cntM
  generalize i / per = q at *
  generalize i % per = r at *
  by_cases h3 : r + 1 < per
  · have e1 : (i + 1) / per = q := by rw [← h1, Nat.add_assoc, Nat.mul_add_div (by omega), Nat.div_eq_of_lt h3, Nat.add_zero]
    have e2 : (i + 1) % per = r + 1 := by rw [← h1, Nat.add_assoc, Nat.mul_add_mod, Nat.mod_eq_of_lt h3]
    rw [e1, e2]
    repeat' split
    all_goals omega
  · have e : i + 1 = per * (q + 1) := by rw [Nat.mul_succ]; omega
    rw [e, Nat.mul_div_cancel_left _ (by omega), Nat.mul_mod_right]
    repeat' split
    all_goals omega
theorem cnt_at (i per : Nat) : i % per + cntM i (i % per) per * per = i := by
  unfold cntM
  rw [if_neg (by omega), Nat.add_zero, Nat.add_comm, Nat.mul_comm]
  exact Nat.div_add_mod i per
theorem cnt_zero (p per : Nat) : cntM 0 p per = 0 := by simp [cntM]
theorem tab_set {α : Type} (n : Nat) (f : Nat → α) (a : Nat) (v : α) : (tab n f).set a v = tab n fun p => if p = a then v else f p := by
  apply List.ext_getElem?
  intro i
  rw [List.getElem?_set]
  simp only [tab, List.length_map, List.length_range, List.getElem?_map]
  by_cases h : i < n
  · rw [List.getElem?_range h]
    by_cases h2 : a = i
    · subst h2; simp [h]
    · have h3 : ¬ (i = a) := fun e => h2 e.symm
      simp [h2, h3]
  · have : (List.range n)[i]? = none := by simp; omega
    rw [this]
    split
    · simp; omega
    · rfl
theorem sum_tab (n : Nat) (f : Nat → Nat) : sumM (tab n f) = accN (fun j s => fadd .f32 s (f j)) n 0 := by
  unfold sumM
  rw [tab_len]
  exact accN_congr fun i x hi => by rw [tab_get _ _ _ _ hi]
theorem mean_tab (n : Nat) (f : Nat → Nat) : meanM (tab n f) = fdiv .f32 (accN (fun j s => fadd .f32 s (f j)) n 0) (fofi .f32 n) := by
  unfold meanM; rw [sum_tab, tab_len]
theorem tmod_nat (a b : Nat) : Int.tmod (a : Int) (b : Int) = ((a % b : Nat) : Int) := rfl
theorem fold_len (xs : List Nat) (per : Nat) : (foldM xs per).length = per := tab_len _ _




def foldOk (xs : List Nat) (per : Int) : Bool := seriesM xs && (inM per 1 xs.length && (finAllM (foldM xs per.toNat) && finM (leftM xs (foldM xs per.toNat))))





def moreM (xs : List Nat) : Bool := xs.all fun x => finM x && fgt .f32 x 0



/-- the level and the factors, one number on -/
def tsStep (xs : List Nat) (per s i : Nat) (a : Nat × List Nat) : Nat × List Nat :=
  let l := fadd .f32 a.1 (fmul .f32 s (fsub .f32 (fdiv .f32 (xs.getD i 0) (a.2.getD (i % per) 0)) a.1))
  (l, a.2.set (i % per) (fadd .f32 (a.2.getD (i % per) 0) (fmul .f32 s (fsub .f32 (fdiv .f32 (xs.getD i 0) l) (a.2.getD (i % per) 0)))))
def tsAt (xs : List Nat) (per s j : Nat) : Nat × List Nat := accN (fun j a => tsStep xs per s (per + j) a) j (meanM (xs.take per), tab per fun k => fdiv .f32 (xs.getD k 0) (meanM (xs.take per)))
def tsEnd (xs : List Nat) (per s : Nat) : Nat × List Nat := tsAt xs per s (xs.length - per)
def tsOk (xs : List Nat) (per : Int) (s : Nat) : Bool := seriesM xs && (inM per 1 24 && (decide (per ≤ xs.length) && (moreM xs && (isShareM s && (finAllM (tsEnd xs per.toNat s).2 && finM (tsEnd xs per.toNat s).1)))))



theorem cnt_le (n p per : Nat) (hp : p < per) (hn : n ≤ 96) : cntM n p per ≤ 96 := by
  have := cnt_lt n p per 96 (by omega)
  apply Decidable.byContradiction; intro h'
  have := this.1 (by omega)
  have := Nat.le_mul_of_pos_right 96 (show 0 < per by omega)
  omega
theorem replicate_tab {α : Type} (n : Nat) (x : α) : List.replicate n x = tab n fun _ => x := by
  simp [tab, List.map_const']
theorem tab_getI (n : Nat) (f : Nat → Int) (i : Nat) (h : i < n) : (tab n f).getD i 0 = f i := tab_get _ _ _ _ h
theorem in_1 {per : Int} {n : Nat} (h : inM per 1 n = true) : 1 ≤ per ∧ per ≤ n := by simpa [inM] using h
theorem per_cond (xs : List Nat) (per : Int) : (seriesM xs && inM per 1 xs.length && decide (per ≤ 24)) = (seriesM xs && (inM per 1 24 && decide (per ≤ xs.length))) := by
  rw [Bool.eq_iff_iff]
  cases seriesM xs <;> simp [inM]
  omega
theorem getD_take {α : Type} (xs : List α) (k i : Nat) (d : α) (h : i < k) : (xs.take k).getD i d = xs.getD i d := by
  simp [List.getD, h]
theorem ts_len (xs : List Nat) (k s : Nat) : ∀ j, (tsAt xs k s j).2.length = k
  | 0 => tab_len _ _
  | j + 1 => by
    have := ts_len xs k s j
    show (tsStep xs k s (k + j) (tsAt xs k s j)).2.length = k
    simp only [tsStep, List.length_set]; exact this
theorem all_allN {p : Nat → Bool} (xs : List Nat) : xs.all p = allN xs.length fun i => p (xs.getD i 0) := by
  have := any_allN (p := fun x => !p x) xs
  rw [← List.not_all_eq_any_not] at this
  simpa using this
end Go.Proofs.LV
