/- Texts that belong together. -/
import Derived.Test.YtdffgjembkanoaaLvFnCX
import Derived.Test.YtdffgjembkanoaaLvExtX
import GoSem.Extern.MathSqrt
import GoSem.Extern.MathFloor
namespace Go.Proofs.LV
open Go
set_option linter.unusedVariables false
set_option linter.unusedSimpArgs false

def absF (x : Nat) : Nat := fmax .f32 x (fneg .f32 x)
def sizF (x : Nat) : Nat := if flt .f32 x 0 = true then fneg .f32 x else x
open Go.IntKind (wrap)
-- FN impl_absolute
def ps_impl_absolute : List Nat := [0, 2]
def b_impl_absolute : VCode :=
 (.seq
 (.region false [
 ⟨some 2, .mv, [.k (.f .f32 0)], none⟩])
 (.seq
 (.region false [
 ⟨some 3, .mv, [.t 0], none⟩,
 ⟨some 4, .mv, [.t 0], none⟩,
 ⟨some 5, .neg, [.t 4], none⟩,
 ⟨some 6, .max, [.t 3, .t 5], none⟩,
 ⟨some 2, .mv, [.t 6], none⟩])
 .ret))

abbrev Is_impl_absolute (P : Program) (g_f : FuncId) : Prop := FnIs P g_f 7 [.t 2] (b_impl_absolute)

abbrev C_impl_absolute (P : Program) (g_f : FuncId) : Prop := ∀ (x : Nat), VCall P g_f [.f .f32 x] (.f .f32 (absF x))
def oc1_impl_absolute (as : List AV) : T AV := match as with | [.f .f32 x] => .leaf (.f .f32 (absF x)) | _ => .fail



theorem q_impl_absolute {P : Program} {g_f : FuncId} (h_ : Is_impl_absolute P g_f) (x : Nat) (ht : T.ok (fun x_ => x_ = .f .f32 (absF x)) (
 T.leaf (AV.f .f32 (fmax .f32 x (fneg .f32 x))))) :
 VCall P g_f [.f .f32 x] (.f .f32 (absF x)) := h_.call_of ps_impl_absolute ⟨fun _ _ => .fail, fun _ _ => none⟩ (by kernel_rfl) ht

-- END impl_absolute
-- FN spec_l03Size
def ps_spec_l03Size : List Nat := [0, 2, 4]
def b_spec_l03Size : VCode :=
 (.seq
 (.region false [
 ⟨some 2, .mv, [.k (.f .f32 0)], none⟩])
 (.seq
 (.seq
 (.region false [
 ⟨some 3, .mv, [.t 0], none⟩,
 ⟨some 4, (.bin .lss), [.t 3, .k (.f .f32 0)], none⟩])
 (.cond (.t 4)
 (.seq
 (.region false [
 ⟨some 5, .mv, [.t 0], none⟩,
 ⟨some 6, .neg, [.t 5], none⟩,
 ⟨some 2, .mv, [.t 6], none⟩])
 .ret)
 .skip))
 (.seq
 (.region false [
 ⟨some 7, .mv, [.t 0], none⟩,
 ⟨some 2, .mv, [.t 7], none⟩])
 .ret)))

abbrev Is_spec_l03Size (P : Program) (g_f : FuncId) : Prop := FnIs P g_f 8 [.t 2] (b_spec_l03Size)

abbrev C_spec_l03Size (P : Program) (g_f : FuncId) : Prop := ∀ (x : Nat), VCall P g_f [.f .f32 x] (.f .f32 (sizF x))
def oc1_spec_l03Size (as : List AV) : T AV := match as with | [.f .f32 x] => .leaf (.f .f32 (sizF x)) | _ => .fail



theorem q_spec_l03Size {P : Program} {g_f : FuncId} (h_ : Is_spec_l03Size P g_f) (x : Nat) (ht : T.ok (fun x_ => x_ = .f .f32 (sizF x)) (
 T.ite (flt .f32 x 0) (T.leaf (AV.f .f32 (fneg .f32 x))) (T.leaf (AV.f .f32 x)))) :
 VCall P g_f [.f .f32 x] (.f .f32 (sizF x)) := h_.call_of ps_spec_l03Size ⟨fun _ _ => .fail, fun _ _ => none⟩ (by kernel_rfl) ht

-- END spec_l03Size
-- FN impl_less
def ps_impl_less : List Nat := [0, 1, 4, 5, 6, 7, 9, 10, 11, 12]
def lv_impl_less_L0 : List Nat := [1, 5, 9, 10, 11]
def b_impl_less_L0 : VCode :=
 (.seq
 (.region false [
 ⟨some 12, (.bin .lss), [.t 11, .t 10], none⟩])
 (.seq
 (.cond (.t 12)
 .skip
 (.exit 0))
 (.seq
 (.block 1
 (.seq
 (.region false [
 ⟨some 13, .mv, [.t 11], none⟩,
 ⟨some 14, .iaddr, [.t 9, .t 11], none⟩,
 ⟨some 15, .load, [.t 14], none⟩,
 ⟨some 6, .mv, [.t 13], none⟩,
 ⟨some 7, .mv, [.t 15], none⟩])
 (.region false [
 ⟨some 16, .mv, [.t 5], none⟩,
 ⟨some 17, .mv, [.t 7], none⟩,
 ⟨some 18, .mv, [.t 1], none⟩,
 ⟨some 19, .mv, [.t 6], none⟩,
 ⟨some 20, .iaddr, [.t 18, .t 19], none⟩,
 ⟨some 21, .load, [.t 20], none⟩,
 ⟨some 22, (.bin .sub), [.t 17, .t 21], none⟩,
 ⟨some 23, (.lit true (.f .f32 [])), [.t 22], none⟩,
 ⟨some 24, .app, [.t 16, .t 23], none⟩,
 ⟨some 5, .mv, [.t 24], none⟩])))
 (.region false [
 ⟨some 25, (.bin .add), [.t 11, .k (.i .i64 1)], none⟩,
 ⟨some 11, .mv, [.t 25], none⟩]))))

def b_impl_less : VCode :=
 (.seq
 (.region false [
 ⟨some 4, (.nilsl (.f .f32 [])), [], none⟩])
 (.seq
 (.region false [
 ⟨some 8, (.lit true (.f .f32 [])), [], none⟩,
 ⟨some 5, .mv, [.t 8], none⟩])
 (.seq
 (.seq
 (.region false [
 ⟨some 9, .mv, [.t 0], none⟩,
 ⟨some 10, .len, [.t 9], none⟩,
 ⟨some 11, .mv, [.k (.i .i64 0)], none⟩])
 (.block 0 (.loop b_impl_less_L0)))
 (.seq
 (.region false [
 ⟨some 26, .mv, [.t 5], none⟩,
 ⟨some 4, .mv, [.t 26], none⟩])
 .ret))))

abbrev Is_impl_less (P : Program) (g_f : FuncId) : Prop := FnIs P g_f 27 [.t 4] (b_impl_less)

abbrev C_impl_less (P : Program) (g_f : FuncId) : Prop := ∀ (xs : List Nat) (ys : List Nat) (hy : xs.length ≤ ys.length) (hx : xs.length ≤ 4294967295), VCall P g_f [PS [0] .f32 xs, PS [1] .f32 ys] (OS 0 .f32 (lessM xs ys))
def oc1_impl_less (as : List AV) : T AV := match as with | [.sl _ _ (.f .f32 xs), .sl _ _ (.f .f32 ys)] => .leaf (OS 0 .f32 (lessM xs ys)) | _ => .fail
def h_impl_less_L0 (xs : List Nat) (ys : List Nat) (out : List Nat) (v11 : Int) : Env := [.any, AV.sl (Tag.par [1]) 0 (Cont.f .f32 ys), .any, .any, .any, .sl (Tag.own 64) 0 (.f .f32 out), .any, .any, .any, AV.sl (Tag.par [0]) 0 (Cont.f .f32 xs), AV.i .i64 (↑(List.length xs) : Int), .i .i64 v11] ++ anys 15

theorem q_impl_less_L0 {VC : FuncId → List AV → AV → Prop} (xs : List Nat) (ys : List Nat) (out : List Nat) (v11 : Int) {e_ : Ex} {σ_ : Env} (ht : T.ok (fun x_ => x_ = (e_, σ_)) (
 T.ite (decide (v11 < (↑(List.length xs) : Int)))
 (T.ob (0 ≤ v11 ∧ v11 < (↑(List.length xs) : Int))
 (T.ob (0 ≤ v11 ∧ v11 < (↑(List.length ys) : Int))
 (T.ob (List.length out + List.length [fsub .f32 (List.getD xs (Int.toNat v11) 0) (List.getD ys (Int.toNat v11) 0)] ≤ 4294967296)
 (T.leaf (Ex.normal, h_impl_less_L0 xs ys (out ++ [fsub .f32 (List.getD xs (Int.toNat v11) 0) (List.getD ys (Int.toNat v11) 0)]) (wrap .i64 (v11 + 1)))))))
 (T.leaf (Ex.exit 0, h_impl_less_L0 xs ys out v11)))) :
 Exec VC ps_impl_less (b_impl_less_L0) (h_impl_less_L0 xs ys out v11) e_ σ_ := evL_of (lv := lv_impl_less_L0) (rs := [4]) (O := ⟨fun _ _ => .fail, fun _ _ => none⟩) (by kernel_rfl) ht

theorem q_impl_less {P : Program} {g_f : FuncId} (h_ : Is_impl_less P g_f) (xs : List Nat) (ys : List Nat) (ht : T.ok (fun x_ => x_ = OS 0 .f32 (lessM xs ys)) (
 T.ob (Exec (VCall P) ps_impl_less (VCode.block 0 (VCode.loop b_impl_less_L0)) (h_impl_less_L0 xs ys [] 0) Ex.normal (h_impl_less_L0 xs ys (lessM xs ys) (↑(List.length xs) : Int)))
 (T.leaf (AV.sl (Tag.own 0) 0 (Cont.f .f32 (lessM xs ys)))))) :
 VCall P g_f [PS [0] .f32 xs, PS [1] .f32 ys] (OS 0 .f32 (lessM xs ys)) := h_.call_of ps_impl_less ⟨fun _ _ => .fail, fun id σ => match id with | 0 => some (lv_impl_less_L0, .leaf (.normal, h_impl_less_L0 xs ys (lessM xs ys) xs.length)) | _ => none⟩ (by kernel_rfl) ht

-- END impl_less

theorem k_impl_absolute {P : Program} {f : FuncId} (h : Is_impl_absolute P f) : C_impl_absolute P f := by
  intro x
  refine q_impl_absolute h x ?_
  repeat' (first | with_reducible refine T.ok_ob ?_ (fun _ => ?_) | with_reducible refine T.ok_ite (fun _ => ?_) (fun _ => ?_) | with_reducible refine T.ok_leaf ?_)
  all_goals first | with_reducible rfl | with_reducible assumption | contradiction | exact fconvOk_32_64 _ | assumption | exact rfl | (simp_all []; done) | (simp_all [T.ok]; omega)

theorem k_spec_l03Size {P : Program} {f : FuncId} (h : Is_spec_l03Size P f) : C_spec_l03Size P f := by
  intro x
  refine q_spec_l03Size h x ?_
  unfold sizF
  repeat' (first | with_reducible refine T.ok_ob ?_ (fun _ => ?_) | with_reducible refine T.ok_ite (fun _ => ?_) (fun _ => ?_) | with_reducible refine T.ok_leaf ?_)
  · rename_i hc; rw [if_pos hc]
  · rename_i hc; rw [if_neg (by rw [hc]; decide)]
theorem neg_srung {x : Nat} (h : nanB .f32 x = false) : srung .f32 (fneg .f32 x) = - srung .f32 x ∧ nanB .f32 (fneg .f32 x) = false := by
  have h1 : (FloatKind.f32.format.read x).isNaN = false := h
  have e : fneg .f32 x = x ^^^ 2 ^ 31 := by
    unfold fneg; rw [h1]; simp only [Bool.false_eq_true, if_false]
    unfold Op.negFloat
    rw [show FloatKind.f32.format.exponentBits + FloatKind.f32.format.fractionBits = 31 by decide]
  have hS : Ieee.single.signWeight = 2 ^ 31 := by decide
  have h2 : rung Ieee.single (fneg .f32 x) = rung Ieee.single x := by
    rw [e]; unfold rung; rw [hS, Nat.xor_mod_two_pow, Nat.mod_self, Nat.xor_zero]
  have h3 : sign Ieee.single (fneg .f32 x) = !(sign Ieee.single x) := by
    rw [e]; unfold sign; rw [hS, Nat.xor_div_two_pow, Nat.div_self (by decide)]
    generalize x / 2 ^ 31 = d
    have h4 : (d ^^^ 1) % 2 = d % 2 ^^^ 1 % 2 := Nat.xor_mod_two_pow (n := 1)
    rw [h4]
    rcases Nat.mod_two_eq_zero_or_one d with h5 | h5 <;> rw [h5] <;> rfl
  refine ⟨?_, ?_⟩
  · show sg (sign Ieee.single _) (rung Ieee.single _) = - sg (sign Ieee.single x) (rung Ieee.single x)
    rw [h2, h3]
    cases sign Ieee.single x <;> simp [sg]
  · rw [nanB_iff] at h ⊢
    show decide (Ieee.single.infRung < rung Ieee.single (fneg .f32 x)) = false
    rw [h2]; exact h
theorem k_impl_less {P : Program} {f : FuncId} (h : Is_impl_less P f) : C_impl_less P f := by
  intro xs ys hy hx
  refine q_impl_less h xs ys ⟨?_, fun _ => rfl⟩
  refine for_up (e := .exit 0) (xs.length) (fun i => h_impl_less_L0 xs ys (tab i fun i => fsub .f32 (xs.getD i 0) (ys.getD i 0)) i) (by first | rfl | simp) (fun i hi => ?_) ?_
  · refine q_impl_less_L0 _ _ _ _ ?_
    repeat' (first | with_reducible refine T.ok_ob ?_ (fun _ => ?_) | with_reducible refine T.ok_ite (fun _ => ?_) (fun _ => ?_) | with_reducible refine T.ok_leaf ?_)
    all_goals (try simp only [decide_eq_true_eq, decide_eq_false_iff_not, Bool.not_eq_true', Bool.not_eq_false', Bool.not_eq_eq_eq_not, Bool.not_true, Bool.not_false, Int.toNat_natCast, tab_len, List.length_append, List.length_singleton, List.length_cons, List.length_nil, List.length_drop, List.length_take, getD_drop', getD_nat, reduceCtorEq] at *)
    all_goals (try simp (disch := omega) only [wrap64_id] at *)
    all_goals first | omega | (exfalso; omega) | trivial | contradiction | (exfalso; simp_all; done) | skip
    all_goals first | rfl | (rw [tab_succ]; rfl)
  · refine q_impl_less_L0 _ _ _ _ ?_
    repeat' (first | with_reducible refine T.ok_ob ?_ (fun _ => ?_) | with_reducible refine T.ok_ite (fun _ => ?_) (fun _ => ?_) | with_reducible refine T.ok_leaf ?_)
    all_goals (try simp only [decide_eq_true_eq, decide_eq_false_iff_not, Bool.not_eq_true', Bool.not_eq_false', Bool.not_eq_eq_eq_not, Bool.not_true, Bool.not_false, Int.toNat_natCast, tab_len, List.length_append, List.length_singleton, List.length_cons, List.length_nil, List.length_drop, List.length_take, getD_drop', getD_nat, reduceCtorEq] at *)
    all_goals (try simp (disch := omega) only [wrap64_id] at *)
    all_goals first | omega | (exfalso; omega) | trivial | contradiction | (exfalso; simp_all; done) | skip
    all_goals rfl

end Go.Proofs.LV

namespace Go.Proofs.LV
open Go
set_option linter.unusedVariables false
set_option linter.unusedSimpArgs false

theorem tab_set {α : Type} (n : Nat) (f : Nat → α) (a : Nat) (v : α) : (tab n f).set a v = tab n fun p => if p = a then v else f p := by
  apply List.ext_getElem?
  intro i
  rw [List.getElem?_set]
  simp only [tab, List.length_map, List.length_range, List.getElem?_map]
  by_cases h : i < n
  · rw [List.getElem?_range h]
    by_cases h2 : a = i
    · subst h2; simp [h]
    · have h3 : ¬ (i = a) := fun e => h2 e.symm
      simp [h2, h3]
  · have : (List.range n)[i]? = none := by simp; omega
    rw [this]
    split
    · simp; omega
    · rfl
def moreM (xs : List Nat) : Bool := xs.all fun x => finM x && fgt .f32 x 0
-- FN impl_areMore_1
def ps_impl_areMore_1 : List Nat := [0, 2]
def b_impl_areMore_1 (gq0 : FuncId) : VCode :=
 (.seq
 (.region false [
 ⟨some 2, .mv, [.k (.b false)], none⟩])
 (.seq
 (.region false [
 ⟨some 3, .mv, [.t 0], none⟩,
 ⟨some 4, (.call gq0), [.t 3], none⟩,
 ⟨some 5, .not, [.t 4], none⟩,
 ⟨some 6, .mv, [.t 5], none⟩,
 ⟨some 7, .mv, [.t 0], some (6, false)⟩,
 ⟨some 8, (.bin .gtr), [.t 7, .k (.f .f32 0)], some (6, false)⟩,
 ⟨some 9, .not, [.t 8], some (6, false)⟩,
 ⟨some 10, .pick, [.t 6, .k (.b true), .t 9], none⟩,
 ⟨some 2, .mv, [.t 10], none⟩])
 .ret))

abbrev Is_impl_areMore_1 (P : Program) (g_f : FuncId) (gq0 : FuncId) : Prop := FnIs P g_f 11 [.t 2] (b_impl_areMore_1 gq0)

abbrev C_impl_areMore_1 (P : Program) (g_f : FuncId) : Prop := ∀ (x : Nat), VCall P g_f [.f .f32 x] (.b (!(finM x && fgt .f32 x 0)))
def oc_impl_areMore_1 (x : Nat) (d : Nat) (as : List AV) : T AV := match d with | 4 => oc1_impl_IsFinite as | _ => .fail



theorem q_impl_areMore_1 {P : Program} {g_f : FuncId} {gq0 : FuncId} (h_ : Is_impl_areMore_1 P g_f gq0) (x : Nat) (ht : T.ok (fun x_ => x_ = .b (!(finM x && fgt .f32 x 0))) (
 T.ob ((VCall P) gq0 [AV.f .f32 x] (AV.b (finM x))) (T.ite (!finM x) (T.leaf (AV.b true)) (T.leaf (AV.b !fgt .f32 x 0))))) :
 VCall P g_f [.f .f32 x] (.b (!(finM x && fgt .f32 x 0))) := h_.call_of ps_impl_areMore_1 ⟨oc_impl_areMore_1 x, fun _ _ => none⟩ (by kernel_rfl) ht

-- END impl_areMore_1

-- FN impl_areMore
def ps_impl_areMore : List Nat := [0, 2]
def b_impl_areMore (gq0 gq1 : FuncId) : VCode :=
 (.seq
 (.region false [
 ⟨some 2, .mv, [.k (.b false)], none⟩])
 (.seq
 (.region false [
 ⟨some 3, .mv, [.t 0], none⟩,
 ⟨some 4, (.call gq0), [.t 3, .k (.fn gq1 [])], none⟩,
 ⟨some 5, .not, [.t 4], none⟩,
 ⟨some 2, .mv, [.t 5], none⟩])
 .ret))

abbrev Is_impl_areMore (P : Program) (g_f : FuncId) (gq0 gq1 : FuncId) : Prop := FnIs P g_f 6 [.t 2] (b_impl_areMore gq0 gq1)

abbrev C_impl_areMore (P : Program) (g_f : FuncId) : Prop := ∀ (xs : List Nat) (hx : xs.length ≤ maxLen), VCall P g_f [PS [0] .f32 xs] (.b (moreM xs))
def oc1_impl_areMore (as : List AV) : T AV := match as with | [.sl _ _ (.f .f32 xs)] => .leaf (.b (moreM xs)) | _ => .fail
def oc_impl_areMore (xs : List Nat) (d : Nat) (as : List AV) : T AV := match d with | 4 => .leaf (.b (xs.any fun x => !(finM x && fgt .f32 x 0))) | _ => .fail



theorem q_impl_areMore {P : Program} {g_f : FuncId} {gq0 gq1 : FuncId} (h_ : Is_impl_areMore P g_f gq0 gq1) (xs : List Nat) (ht : T.ok (fun x_ => x_ = .b (moreM xs)) (
 T.ob ((VCall P) gq0 [AV.sl (Tag.par [0]) 0 (Cont.f .f32 xs), AV.fn gq1 []] (AV.b (List.any xs fun (x : Nat) => !(finM x && fgt .f32 x 0))))
 (T.leaf (AV.b !List.any xs fun (x : Nat) => !(finM x && fgt .f32 x 0))))) :
 VCall P g_f [PS [0] .f32 xs] (.b (moreM xs)) := h_.call_of ps_impl_areMore ⟨oc_impl_areMore xs, fun _ _ => none⟩ (by kernel_rfl) ht

-- END impl_areMore


theorem k_impl_areMore_1 {P : Program} {f g_impl_IsFinite : FuncId} (h : Is_impl_areMore_1 P f g_impl_IsFinite) (c1 : C_impl_IsFinite P g_impl_IsFinite) : C_impl_areMore_1 P f := by
  intro x
  refine q_impl_areMore_1 h x ?_
  repeat' (first | with_reducible refine T.ok_ob ?_ (fun _ => ?_) | with_reducible refine T.ok_ite (fun _ => ?_) (fun _ => ?_) | with_reducible refine T.ok_leaf ?_)
  all_goals first | with_reducible rfl | with_reducible assumption | with_reducible exact c1 _ | contradiction | exact fconvOk_32_64 _ | assumption | exact rfl | (simp_all []; done) | (simp_all [T.ok]; omega)

theorem k_impl_areMore {P : Program} {f g F : FuncId} (h : Is_impl_areMore P f g F) (hg : C_slices_ContainsFunc___float32_float32_ P g) (hF : C_impl_areMore_1 P F) : C_impl_areMore P f := by
  intro xs hx
  refine q_impl_areMore h xs ⟨hg xs F _ hF hx, fun _ => ?_⟩
  show _ = _
  congr 1
  unfold moreM
  rw [← List.not_all_eq_any_not, Bool.not_not]
end Go.Proofs.LV

namespace Go.Proofs.LV
open Go
set_option linter.unusedVariables false
set_option linter.unusedSimpArgs false

/-! ### steps -/
/-! ### seasons -/
/-! ### the best period -/
end Go.Proofs.LV

namespace Go.Proofs.LV
open Go
set_option linter.unusedVariables false
set_option linter.unusedSimpArgs false

abbrev LL := List (List Nat)
abbrev PF (p : List Nat) (xs : LL) : AV := .sl (.par p) 0 (.ff .f32 xs)
/-! ### guesses ahead -/
/-! ### means of series -/
end Go.Proofs.LV

namespace Go.Proofs.LV
open Go Ieee
set_option linter.unusedVariables false
set_option linter.unusedSimpArgs false

/-! ### how great -/
theorem kept_le (neg : Bool) (mag : Nat) (place last : Int) (fb : Nat) (h0 : mag ≠ 0) (h : place + mag.log2 - fb ≤ last) : Toward.even.cut neg (mag <<< (place - last).toNat) (last - place).toNat ≤ 2 ^ (fb + 1) := by
  have hb : mag < 2 ^ (mag.log2 + 1) := Nat.lt_log2_self
  by_cases hd : (last - place).toNat = 0
  · rw [hd, cut_zero, Nat.shiftLeft_eq]
    apply Nat.le_of_lt
    calc mag * 2 ^ (place - last).toNat < 2 ^ (mag.log2 + 1) * 2 ^ (place - last).toNat := Nat.mul_lt_mul_of_pos_right hb (Nat.two_pow_pos _)
      _ = 2 ^ (mag.log2 + 1 + (place - last).toNat) := (Nat.pow_add ..).symm
      _ ≤ 2 ^ (fb + 1) := Nat.pow_le_pow_right (by omega) (by omega)
  · have hs : (place - last).toNat = 0 := by omega
    rw [hs, Nat.shiftLeft_zero]
    unfold Toward.cut
    simp only
    generalize hg : min (last - place).toNat (mag.log2 + 2) = g
    have hlow : mag / (1 <<< g) < 2 ^ (fb + 1) := by
      rw [Nat.shiftLeft_eq, Nat.one_mul, Nat.div_lt_iff_lt_mul (Nat.two_pow_pos _), ← Nat.pow_add]
      exact Nat.lt_of_lt_of_le hb (Nat.pow_le_pow_right (by omega) (by omega))
    have hm : ∀ b : Bool, b.toNat ≤ 1 := fun b => by cases b <;> simp
    exact Nat.le_trans (Nat.add_le_add_left (hm _) _) hlow
theorem nearest_rung (f : Format) (neg : Bool) (mag : Nat) (place K : Int) (h0 : mag ≠ 0) (hK : place + mag.log2 ≤ K) (hL : f.leastPlace + f.fractionBits ≤ K) :
    ∃ r, f.nearest neg mag place = f.word neg r ∧ r ≤ ((K - f.fractionBits - f.leastPlace).toNat + 2) * f.binade ∧ r ≤ f.infRung := by
  unfold Format.nearest
  rw [if_neg h0]
  refine ⟨_, rfl, ?_, Nat.min_le_right _ _⟩
  refine Nat.le_trans (Nat.min_le_left _ _) ?_
  generalize hl : max (place + (mag.log2 : Int) - f.fractionBits) f.leastPlace = last
  have h1 := kept_le neg mag place last f.fractionBits h0 (by omega)
  have h2 : (last - f.leastPlace).toNat ≤ (K - f.fractionBits - f.leastPlace).toNat := by omega
  have h3 := Nat.mul_le_mul_right f.binade h2
  have h4 : 2 ^ (f.fractionBits + 1) = 2 * f.binade := by unfold Format.binade; rw [Nat.pow_succ, Nat.mul_comm]
  rw [Nat.add_mul]
  omega
/-- numbers below a rung -/
theorem read_small {f : Format} {x m : Nat} {s : Bool} {e : Int} {q : Nat} (hq : 1 ≤ q) (hr : f.read x = .number s m e) (hx : rung f x ≤ q * f.binade) : m < 2 * f.binade ∧ e ≤ f.leastPlace + (q - 1 : Nat) ∧ f.leastPlace ≤ e := by
  unfold Format.read at hr
  unfold rung at hx
  simp only at hr
  have hB : 0 < f.binade := Nat.two_pow_pos _
  split at hr
  · cases hr; omega
  · split at hr
    · cases hr
      have h1 : x % f.signWeight % f.binade < f.binade := Nat.mod_lt _ hB
      have h2 : x % f.signWeight / f.binade ≤ q := by
        have := Nat.div_le_div_right (c := f.binade) hx
        rwa [Nat.mul_div_cancel _ hB] at this
      omega
    · split at hr <;> cases hr
theorem rung_word (f : Format) (neg : Bool) (r : Nat) (h : r ≤ f.infRung) : rung f (f.word neg r) = r := (read_word_rung f neg r (Nat.lt_of_le_of_lt h f.infRung_lt)).1
theorem log2_lt' {m k : Nat} (h : m < 2 ^ k) (h0 : m ≠ 0) : m.log2 < k := (Nat.log2_lt h0).2 h
theorem dbl : double.leastPlace = -1074 ∧ double.fractionBits = 52 ∧ double.binade = 2 ^ 52 := by decide
theorem sgl : single.leastPlace = -149 ∧ single.fractionBits = 23 ∧ single.binade = 2 ^ 23 ∧ single.infRung = 255 * 2 ^ 23 := by decide
/-- a double that is small enough passes into the lesser format -/
theorem narrow_ok {y q : Nat} (hq : 1 ≤ q) (hq2 : q ≤ 1149) (hy : rung double y ≤ q * 2 ^ 52) : fconvOk .f64 .f32 y = true := by
  unfold fconvOk
  simp only [reduceCtorEq, if_false]
  split
  · rename_i n m e h
    have h : double.read y = .number n m e := h
    obtain ⟨hm, he, _⟩ := read_small (f := double) hq h (by rw [dbl.2.2]; exact hy)
    rw [dbl.1] at he
    rw [dbl.2.2] at hm
    show (!(single.read (single.nearest n m e)).isInfinity) = true
    by_cases h0 : m = 0
    · subst h0
      have : single.nearest n 0 e = single.word n 0 := by unfold Format.nearest; rw [if_pos rfl]
      rw [this, read_word_fin _ _ _ (by decide)]; rfl
    · have hl := log2_lt' (show m < 2 ^ 53 by omega) h0
      obtain ⟨r, hr, hr2, _⟩ := nearest_rung single n m e 126 h0 (by omega) (by rw [sgl.1, sgl.2.1]; omega)
      rw [sgl.1, sgl.2.1, sgl.2.2.1] at hr2
      rw [hr, read_word_fin _ _ _ (by rw [sgl.2.2.2]; omega)]; rfl
  · rfl
end Go.Proofs.LV

namespace Go.Proofs.LV
open Go Ieee
set_option linter.unusedVariables false
set_option linter.unusedSimpArgs false

theorem inf_write (s : Bool) : single.read (single.write (.infinity s)) = .infinity s := by cases s <;> decide
theorem fnan_bad : finM (fnan .f32) = false := by decide
theorem finM_iff (x : Nat) : finM x = decide (rung single x < single.infRung) := by
  unfold finM fsub Format.sub
  show feq .f32 ((Option.map single.write ((single.read x).sum (single.read x).opposite)).getD (fnan .f32)) 0 = _
  rcases Nat.lt_trichotomy (rung single x) single.infRung with h | h | h
  · obtain ⟨m, p, e, _⟩ := read_num h
    have ez : (Option.map single.write ((single.read x).sum (single.read x).opposite)) = some 0 := by
      rw [e]
      generalize sign single x = s
      have : Datum.sum (.number s m (single.leastPlace + (p : Nat))) (Datum.opposite (.number s m (single.leastPlace + (p : Nat)))) = some (.number false 0 (single.leastPlace + (p : Nat))) := by
        cases s <;> simp [Datum.sum, Datum.opposite, signed] <;> omega
      rw [this, Option.map_some]
      show some (single.nearest false 0 _) = some 0
      unfold Format.nearest; rw [if_pos rfl]; rfl
    rw [ez, Option.getD_some, decide_eq_true h]; decide
  · have e := read_inf (fmt_ok .f32) h
    have e : single.read x = .infinity (sign single x) := e
    have ez : (Option.map single.write ((single.read x).sum (single.read x).opposite)) = none := by
      rw [e]
      cases sign single x <;> rfl
    rw [ez]
    have : ¬ (rung single x < single.infRung) := by omega
    rw [decide_eq_false this]; decide
  · have e := read_nan (fmt_ok .f32) h
    have e : (single.read x).isNaN = true := e
    have ez : (Option.map single.write ((single.read x).sum (single.read x).opposite)) = none := by
      cases h3 : single.read x <;> simp [h3, Datum.isNaN] at e
      rfl
    rw [ez]
    have : ¬ (rung single x < single.infRung) := by omega
    rw [decide_eq_false this]; decide
theorem bad_class {x : Nat} (h : finM x = false) : (∃ s, single.read x = .infinity s) ∨ ∃ s t, single.read x = .nan s t := by
  rw [finM_iff] at h
  have h := of_decide_eq_false h
  rcases Nat.lt_or_eq_of_le (Nat.le_of_not_lt h) with h | h
  · right
    have e : (single.read x).isNaN = true := read_nan (fmt_ok .f32) h
    cases h3 : single.read x <;> simp [h3, Datum.isNaN] at e
    exact ⟨_, _, rfl⟩
  · left; exact ⟨_, read_inf (fmt_ok .f32) h.symm⟩
theorem fin_class {x : Nat} (h : finM x = true) : ∃ s m e, single.read x = .number s m e := by
  rw [finM_iff] at h
  obtain ⟨m, p, e, _⟩ := read_num (of_decide_eq_true h)
  exact ⟨_, _, _, e⟩
theorem inf_bad {x : Nat} {s : Bool} (h : single.read x = .infinity s) : finM x = false := by
  rw [finM_iff]
  cases hd : decide (rung single x < single.infRung) with
  | false => rfl
  | true =>
    obtain ⟨m, p, e, _⟩ := read_num (of_decide_eq_true hd)
    rw [h] at e; cases e
theorem bad_getD {o : Option Datum} (h : ∀ d, o = some d → ∃ s, d = .infinity s) : finM ((o.map single.write).getD (fnan .f32)) = false := by
  cases o with
  | none => exact fnan_bad
  | some d =>
    obtain ⟨s, rfl⟩ := h d rfl
    exact inf_bad (inf_write s)
theorem bad_sub {a b : Nat} (ha : finM a = true) (h : finM b = false) : finM (fsub .f32 a b) = false := by
  obtain ⟨u, m, i, ha⟩ := fin_class ha
  refine bad_getD (o := (single.read a).sum (single.read b).opposite) fun d hd => ?_
  rw [ha] at hd
  rcases bad_class h with ⟨s, e⟩ | ⟨s, t, e⟩
  · rw [e] at hd; cases hd; exact ⟨_, rfl⟩
  · rw [e] at hd; cases hd
/-! ### what is greater than 0 has a root greater than 0 -/
theorem nearest_exact (f : Format) (neg : Bool) (mag : Nat) (place : Int) (h0 : mag ≠ 0) (hm : mag < 2 * f.binade) (hp : f.leastPlace ≤ place) (hr : (place - f.leastPlace).toNat * f.binade + 2 * f.binade ≤ f.infRung) :
    ∃ r, f.nearest neg mag place = f.word neg r ∧ r < f.infRung ∧ units f.binade r = mag * 2 ^ (place - f.leastPlace).toNat := by
  have hB : f.binade = 2 ^ f.fractionBits := rfl
  have hlog : mag.log2 ≤ f.fractionBits := by
    have := log2_lt' (show mag < 2 ^ (f.fractionBits + 1) by rw [Nat.pow_succ, Nat.mul_comm]; exact hm) h0
    omega
  have hlo : 2 ^ mag.log2 ≤ mag := Nat.log2_self_le h0
  have hhi : mag < 2 ^ (mag.log2 + 1) := Nat.lt_log2_self
  unfold Format.nearest
  rw [if_neg h0]
  generalize hl : max (place + (mag.log2 : Int) - f.fractionBits) f.leastPlace = last
  have hd : (last - place).toNat = 0 := by omega
  simp only [hd, cut_zero, Nat.shiftLeft_eq]
  generalize hs : (place - last).toNat = s
  have hs2 : mag.log2 + s ≤ f.fractionBits := by omega
  have hk : mag * 2 ^ s < 2 * f.binade := by
    calc mag * 2 ^ s < 2 ^ (mag.log2 + 1) * 2 ^ s := Nat.mul_lt_mul_of_pos_right hhi (Nat.two_pow_pos _)
      _ = 2 ^ (mag.log2 + 1 + s) := (Nat.pow_add ..).symm
      _ ≤ 2 ^ (f.fractionBits + 1) := Nat.pow_le_pow_right (by omega) (by omega)
      _ = 2 * f.binade := by rw [Nat.pow_succ, Nat.mul_comm, hB]
  have hql : (last - f.leastPlace).toNat ≤ (place - f.leastPlace).toNat := by omega
  have hmul := Nat.mul_le_mul_right f.binade hql
  have hlt : (last - f.leastPlace).toNat * f.binade + mag * 2 ^ s < f.infRung := by omega
  refine ⟨_, rfl, by rw [Nat.min_eq_left (Nat.le_of_lt hlt)]; exact hlt, ?_⟩
  rw [Nat.min_eq_left (Nat.le_of_lt hlt)]
  have hBp : 0 < f.binade := Nat.two_pow_pos _
  have etot : (place - f.leastPlace).toNat = s + (last - f.leastPlace).toNat := by omega
  rw [etot, Nat.pow_add, ← Nat.mul_assoc]
  by_cases hq : (last - f.leastPlace).toNat = 0
  · rw [hq, Nat.zero_mul, Nat.zero_add, Nat.pow_zero, Nat.mul_one]
    unfold units
    split
    · rfl
    · rename_i h
      have h1 : mag * 2 ^ s / f.binade = 1 := by
        have h2 := Nat.div_lt_of_lt_mul (show mag * 2 ^ s < f.binade * 2 by omega)
        have h3 := (Nat.le_div_iff_mul_le hBp).2 (show 1 * f.binade ≤ mag * 2 ^ s by omega)
        omega
      have h4 := Nat.div_add_mod (mag * 2 ^ s) f.binade
      rw [h1] at h4 ⊢
      simp; omega
  · generalize (last - f.leastPlace).toNat = q at *
    have hsx : mag.log2 + s = f.fractionBits := by omega
    have hge : f.binade ≤ mag * 2 ^ s := by
      calc f.binade = 2 ^ (mag.log2 + s) := by rw [hsx, hB]
        _ = 2 ^ mag.log2 * 2 ^ s := Nat.pow_add ..
        _ ≤ mag * 2 ^ s := Nat.mul_le_mul_right _ hlo
    generalize mag * 2 ^ s = k at *
    have h1 : (q * f.binade + k) / f.binade = q + 1 := by
      rw [Nat.mul_comm, Nat.mul_add_div hBp]
      have h2 := Nat.div_lt_of_lt_mul (show k < f.binade * 2 by omega)
      have h3 := (Nat.le_div_iff_mul_le hBp).2 (show 1 * f.binade ≤ k by omega)
      omega
    have h4 : (q * f.binade + k) % f.binade = k - f.binade := by
      have := Nat.div_add_mod (q * f.binade + k) f.binade
      rw [h1, Nat.mul_succ, Nat.mul_comm f.binade q] at this
      omega
    unfold units
    rw [if_neg (by have := Nat.le_mul_of_pos_left f.binade (show 0 < q by omega); omega), h1, h4, Nat.add_sub_cancel]
    rw [show f.binade + (k - f.binade) = k by omega]
theorem cut_ge (neg : Bool) (n d : Nat) (h : d ≤ n.log2 + 2) : n / 2 ^ d ≤ Toward.even.cut neg n d := by
  unfold Toward.cut
  simp only
  rw [Nat.min_eq_left h, Nat.shiftLeft_eq, Nat.one_mul]
  exact Nat.le_add_right _ _
end Go.Proofs.LV

namespace Go.Proofs.LV
open Go
set_option linter.unusedVariables false
set_option linter.unusedSimpArgs false

-- FN spec_l01Narrow
-- END spec_l01Narrow


end Go.Proofs.LV

namespace Go.Proofs.LV
open Go Ieee
set_option linter.unusedVariables false
set_option linter.unusedSimpArgs false

theorem log2_mul_pow {n : Nat} (hn : n ≠ 0) (a : Nat) : (n * 2 ^ a).log2 = n.log2 + a := by
  have h1 : 2 ^ n.log2 ≤ n := Nat.log2_self_le hn
  have h2 : n < 2 ^ (n.log2 + 1) := Nat.lt_log2_self
  have h0 : n * 2 ^ a ≠ 0 := Nat.mul_ne_zero hn (by have := Nat.two_pow_pos a; omega)
  have u : n.log2 + a ≤ (n * 2 ^ a).log2 := (Nat.le_log2 h0).2 (by rw [Nat.pow_add]; exact Nat.mul_le_mul_right _ h1)
  have l : (n * 2 ^ a).log2 < n.log2 + a + 1 := (Nat.log2_lt h0).2 (by
    rw [show n.log2 + a + 1 = n.log2 + 1 + a by omega, Nat.pow_add]; exact Nat.mul_lt_mul_of_pos_right h2 (Nat.two_pow_pos a))
  omega
theorem cut_shift (neg : Bool) {n : Nat} (hn : n ≠ 0) (d a : Nat) : Toward.even.cut neg (n * 2 ^ a) (d + a) = Toward.even.cut neg n d := by
  unfold Toward.cut
  rw [log2_mul_pow hn]
  have e : min (d + a) (n.log2 + a + 2) = min d (n.log2 + 2) + a := by omega
  rw [e]
  simp only [Nat.one_shiftLeft]
  generalize min d (n.log2 + 2) = g
  have p := Nat.two_pow_pos a
  rw [Nat.pow_add, Nat.mul_div_mul_right _ _ p, Nat.mul_mod_mul_right]
  have e1 : (2 ^ g * 2 ^ a < 2 * (n % 2 ^ g * 2 ^ a)) = (2 ^ g < 2 * (n % 2 ^ g)) := by
    rw [← Nat.mul_assoc]; exact propext ⟨fun h => Nat.lt_of_mul_lt_mul_right h, fun h => Nat.mul_lt_mul_of_pos_right h p⟩
  have e2 : (2 ^ g * 2 ^ a == 2 * (n % 2 ^ g * 2 ^ a)) = (2 ^ g == 2 * (n % 2 ^ g)) := by
    rw [← Nat.mul_assoc, Bool.eq_iff_iff]
    simp only [beq_iff_eq]
    exact ⟨fun h => Nat.eq_of_mul_eq_mul_right p h, fun h => congrArg (· * 2 ^ a) h⟩
  simp only [e1, e2]
theorem nearest_shift (f : Format) (neg : Bool) (mag : Nat) (place : Int) (a : Nat) : f.nearest neg (mag * 2 ^ a) (place - a) = f.nearest neg mag place := by
  unfold Format.nearest
  by_cases h0 : mag = 0
  · simp [h0]
  have h1 : mag * 2 ^ a ≠ 0 := Nat.mul_ne_zero h0 (by have := Nat.two_pow_pos a; omega)
  rw [if_neg h0, if_neg h1, log2_mul_pow h0]
  have e : place - (a : Int) + ((mag.log2 + a : Nat) : Int) - f.fractionBits = place + mag.log2 - f.fractionBits := by omega
  simp only [e]
  generalize max (place + (mag.log2 : Int) - f.fractionBits) f.leastPlace = last
  have key : Toward.even.cut neg ((mag * 2 ^ a) <<< (place - a - last).toNat) (last - (place - a)).toNat = Toward.even.cut neg (mag <<< (place - last).toNat) (last - place).toNat := by
    by_cases c1 : place ≤ last
    · rw [show (place - a - last).toNat = 0 by omega, show (place - last).toNat = 0 by omega, show (last - (place - a)).toNat = (last - place).toNat + a by omega]
      simp only [Nat.shiftLeft_zero]
      exact cut_shift neg h0 _ _
    · by_cases c2 : (a : Int) ≤ place - last
      · rw [show (last - (place - a)).toNat = 0 by omega, show (last - place).toNat = 0 by omega, Nat.shiftLeft_eq, Nat.shiftLeft_eq, Nat.mul_assoc, ← Nat.pow_add]
        congr 3
        omega
      · rw [show (place - a - last).toNat = 0 by omega, Nat.shiftLeft_zero, show (last - place).toNat = 0 by omega, Nat.shiftLeft_eq]
        have e3 : mag * 2 ^ a = mag * 2 ^ (place - last).toNat * 2 ^ (last - (place - a)).toNat := by
          rw [Nat.mul_assoc, ← Nat.pow_add]; congr 2; omega
        rw [e3]
        have h2 : mag * 2 ^ (place - last).toNat ≠ 0 := Nat.mul_ne_zero h0 (by have := Nat.two_pow_pos (place - last).toNat; omega)
        have := cut_shift neg h2 0 (last - (place - a)).toNat
        rw [Nat.zero_add] at this
        exact this
  rw [key]
end Go.Proofs.LV

namespace Go.Proofs.LV
open Go Ieee
set_option linter.unusedVariables false
set_option linter.unusedSimpArgs false

theorem div_small {n d : Nat} (h : n.log2 + 2 ≤ d) : n / 2 ^ d = 0 ∧ n / 2 ^ (n.log2 + 2) = 0 := by
  have h1 : n < 2 ^ (n.log2 + 1) := Nat.lt_log2_self
  have h2 : 2 ^ (n.log2 + 1) ≤ 2 ^ (n.log2 + 2) := Nat.pow_le_pow_right (by omega) (by omega)
  have h3 : 2 ^ (n.log2 + 2) ≤ 2 ^ d := Nat.pow_le_pow_right (by omega) h
  exact ⟨Nat.div_eq_of_lt (by omega), Nat.div_eq_of_lt (by omega)⟩
theorem low_eq (n d : Nat) : n / (1 <<< min d (n.log2 + 2)) = n / 2 ^ d := by
  rw [Nat.one_shiftLeft]
  by_cases h : d ≤ n.log2 + 2
  · rw [Nat.min_eq_left h]
  · rw [Nat.min_eq_right (by omega)]
    obtain ⟨h1, h2⟩ := div_small (n := n) (d := d) (by omega)
    rw [h1, h2]
theorem cut_zway (s : Bool) (n d : Nat) : Toward.zero.cut s n d = n / 2 ^ d := by
  unfold Toward.cut
  simp only [Bool.toNat_false, Nat.add_zero]
  exact low_eq n d
/-- mag * 2 ^ (least + p), cut -/
theorem shift_div (m K p : Nat) : (m <<< (-(K : Int) + p).toNat) / 2 ^ (-(-(K : Int) + p)).toNat = m * 2 ^ p / 2 ^ K := by
  rw [Nat.shiftLeft_eq]
  by_cases h : K ≤ p
  · rw [show (-(K : Int) + p).toNat = p - K by omega, show (-(-(K : Int) + p)).toNat = 0 by omega, Nat.pow_zero, Nat.div_one]
    have : 2 ^ p = 2 ^ (p - K) * 2 ^ K := by rw [← Nat.pow_add]; congr 1; omega
    rw [this, ← Nat.mul_assoc, Nat.mul_div_cancel _ (Nat.two_pow_pos _)]
  · rw [show (-(K : Int) + p).toNat = 0 by omega, show (-(-(K : Int) + p)).toNat = K - p by omega, Nat.pow_zero, Nat.mul_one]
    have : 2 ^ K = 2 ^ (K - p) * 2 ^ p := by rw [← Nat.pow_add]; congr 1; omega
    rw [this, Nat.mul_div_mul_right _ _ (Nat.two_pow_pos _)]
theorem toInt_num (s : Bool) (m K p : Nat) : (Datum.number s m (-(K : Int) + p)).toInt .zero = some (sg s (m * 2 ^ p / 2 ^ K)) := by
  unfold Datum.toInt Datum.integral
  simp only
  rw [cut_zway, shift_div, signed_eq, Nat.pow_zero, Nat.mul_one]
end Go.Proofs.LV
