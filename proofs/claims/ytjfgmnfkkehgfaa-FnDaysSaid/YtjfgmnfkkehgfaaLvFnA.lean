/- Functions of the laws and of both packages that copy, count, compare and look whether numbers are finite. -/
import Derived.Test.YtjfgmnfkkehgfaaLvExt
import Derived.Test.YtjfgmnfkkehgfaaLvFlt
namespace Go.Proofs.LV
open Go
set_option linter.unusedVariables false
set_option linter.unusedSimpArgs false

abbrev PS (p : List Nat) (k : FloatKind) (xs : List Nat) : AV := .sl (.par p) 0 (.f k xs)
abbrev OS (n : Nat) (k : FloatKind) (xs : List Nat) : AV := .sl (.own n) 0 (.f k xs)
abbrev F4 (a b c d : Nat) : List AV := [.f .f32 a, .f .f32 b, .f .f32 c, .f .f32 d]
/-- a state, its season being the tag's -/
abbrev ST (g : Tag) (l s : Nat) (xs : List Nat) (t : Int) : List AV := [.f .f32 l, .f .f32 s, .sl g 0 (.f .f32 xs), .i .i64 t]

/-! ### plain lemmas -/
theorem wrap64_id {n : Int} (h1 : -9223372036854775808 ≤ n) (h2 : n ≤ 9223372036854775807) : IntKind.wrap .i64 n = n := by
  simp [IntKind.wrap, IntKind.signed, IntKind.bits, Int.bmod]
  omega
theorem take_next {α : Type} (xs : List α) (i : Nat) (d : α) (h : i < xs.length) : xs.take (i + 1) = xs.take i ++ [xs.getD i d] := by
  rw [List.take_succ_eq_append_getElem h]; simp [List.getD, List.getElem?_eq_getElem h]
theorem take_set_next {α : Type} (xs : List α) (i : Nat) (d : α) (h : i < xs.length) (x : α) (r : List α) : (xs.take i ++ x :: r).set i (xs.getD i d) = xs.take (i + 1) ++ r := by
  have hl : (xs.take i).length = i := by simp; omega
  rw [List.set_append_right _ _ (by omega), hl, Nat.sub_self, List.set_cons_zero, take_next xs i d h, List.append_assoc, List.singleton_append]
theorem replicate_next {α : Type} (n i : Nat) (x : α) (h : i < n) : List.replicate (n - i) x = x :: List.replicate (n - (i + 1)) x := by
  rw [show n - i = (n - (i + 1)) + 1 by omega, List.replicate_succ]
theorem getD_nat {α : Type} (xs : List α) (i : Nat) (d : α) : xs.getD (Int.toNat (i : Int)) d = xs.getD i d := by simp
theorem ml64 {n : Nat} (h : n ≤ maxLen) : n ≤ 9223372036854775807 := h

/-- a loop that counts up to m -/
theorem for_up {VC : FuncId → List AV → AV → Prop} {ps : List Nat} {id : Nat} {b : VCode} {e e' : Ex} {σ0 σ1 : Env} (m : Nat) (st : Nat → Env) (h0 : σ0 = st 0) (h : ∀ i, i < m → Exec VC ps b (st i) .normal (st (i + 1)))
    (he : Exec VC ps b (st m) e σ1) (hne : e ≠ .normal := by simp) (hx : e.inBlock id = e' := by rfl) : Exec VC ps (.block id (.loop b)) σ0 e' σ1 := by
  subst hx; subst h0; exact for_loop m st h he hne

/-! ### numbers -/
/-- is a number finite, as the program asks it -/
def finM (x : Nat) : Bool := feq .f32 (fsub .f32 x x) 0
def finAllM (xs : List Nat) : Bool := xs.all finM
def inM (n low top : Int) : Bool := decide (n ≥ low) && decide (n ≤ top)
def isShareM (x : Nat) : Bool := fge .f32 x 0 && fle .f32 x 1065353216


-- FN impl_within
/-- impl.within: slots 15, results [.t 6]; calls []; names [(n, 0), (low, 1), (high, 2), (n, 3), (low, 4), (high, 5)] -/
def ps_impl_within : List Nat := [0, 1, 2, 6]
def b_impl_within : VCode :=
  (.seq
   (.region false [
    ⟨some 6, .mv, [.k (.b false)], none⟩])
   (.seq
    (.region false [
     ⟨some 7, .mv, [.t 0], none⟩,
     ⟨some 8, .mv, [.t 1], none⟩,
     ⟨some 9, (.bin .geq), [.t 7, .t 8], none⟩,
     ⟨some 10, .mv, [.t 9], none⟩,
     ⟨some 11, .mv, [.t 0], some (10, true)⟩,
     ⟨some 12, .mv, [.t 2], some (10, true)⟩,
     ⟨some 13, (.bin .leq), [.t 11, .t 12], some (10, true)⟩,
     ⟨some 14, .pick, [.t 10, .t 13, .k (.b false)], none⟩,
     ⟨some 6, .mv, [.t 14], none⟩])
    .ret))

abbrev Is_impl_within (P : Program) (g_f : FuncId) : Prop := FnIs P g_f 15 [.t 6] (b_impl_within)

abbrev C_impl_within (P : Program) (g_f : FuncId) : Prop := ∀ (n : Int) (low : Int) (top : Int), VCall P g_f [.i .i64 n, .i .i64 low, .i .i64 top] (.b (inM n low top))
def oc1_impl_within (as : List AV) : T AV := match as with | [.i .i64 n, .i .i64 low, .i .i64 top] => .leaf (.b (inM n low top)) | _ => .fail



theorem q_impl_within {P : Program} {g_f : FuncId} (h_ : Is_impl_within P g_f) (n : Int) (low : Int) (top : Int) (ht : T.ok (fun x_ => x_ = .b (inM n low top)) (
      T.ite (decide (n ≥ low)) (T.leaf (AV.b (decide (n ≤ top)))) (T.leaf (AV.b false)))) :
    VCall P g_f [.i .i64 n, .i .i64 low, .i .i64 top] (.b (inM n low top)) := h_.call_of ps_impl_within ⟨fun _ _ => .fail, fun _ _ => none⟩ (by kernel_rfl) ht

-- END impl_within

theorem k_impl_within {P : Program} {f : FuncId} (h : Is_impl_within P f) : C_impl_within P f := by
  intro n low top
  refine q_impl_within h n low top ⟨fun h => ?_, fun h => ?_⟩ <;> simp only [T.ok, inM, h, Bool.true_and, Bool.false_and]


def szM (n : Nat) (i : Int) : Int := if i < n then -1 else i - n
/-- the numbers that a mark writes -/
def marksM : Nat → Int → List Nat
  | 0, _ => []
  | n + 1, k => fofi .f32 k :: marksM n (k + 1)


theorem marks_len : ∀ (n : Nat) (k : Int), (marksM n k).length = n
  | 0, _ => rfl
  | n + 1, k => by simp [marksM, marks_len n]
theorem marks_get : ∀ (n i : Nat) (k : Int), i < n → (marksM n k).getD i 0 = fofi .f32 (k + i)
  | 0, i, k, h => by omega
  | n + 1, 0, k, h => by simp [marksM]
  | n + 1, i + 1, k, h => by
    have := marks_get n i (k + 1) (by omega)
    simp only [marksM, List.getD_cons_succ, this]
    congr 1; omega
theorem marks_set (xs : List Nat) (n i : Nat) (k : Int) (h : i < n) (hx : xs.length = n) : ((marksM n k).take i ++ xs.drop i).set i (fofi .f32 (k + i)) = (marksM n k).take (i + 1) ++ xs.drop (i + 1) := by
  have hl := marks_len n k
  rw [List.drop_eq_getElem_cons (by omega), ← marks_get n i k h]
  exact take_set_next _ _ _ (by omega) _ _

end Go.Proofs.LV
