/- Folded periods, factors of a season. -/
import Derived.Test.YtjfgmnfkkehgfaaLvFnF
namespace Go.Proofs.LV
open Go
set_option linter.unusedVariables false
set_option linter.unusedSimpArgs false

/-- how many of p, p + per, .. lie below i -/
def cntM (i p per : Nat) : Nat := i / per + (if p < i % per then 1 else 0)
def fsumM (xs : List Nat) (per p n : Nat) : Nat := accN (fun j s => fadd .f32 s (xs.getD (p + j * per) 0)) n 0
def foldM (xs : List Nat) (per : Nat) : List Nat := tab per fun p => fdiv .f32 (fsumM xs per p (cntM xs.length p per)) (fofi .f32 (cntM xs.length p per))
def leftM (xs means : List Nat) : Nat := accN (fun i s => fadd .f32 s (fmul .f32 (fsub .f32 (xs.getD i 0) (means.getD (i % means.length) 0)) (fsub .f32 (xs.getD i 0) (means.getD (i % means.length) 0)))) xs.length 0

theorem cnt_lt (n p per j : Nat) (hp : p < per) : j < cntM n p per ↔ p + j * per < n := by
  have h1 := Nat.div_add_mod n per
  have h2 := Nat.mod_lt n (show per > 0 by omega)
  unfold cntM
  generalize n / per = q at *
  generalize n % per = r at *
  have a := fun (x y : Nat) (h : x ≤ y) => Nat.mul_le_mul_right per h
  have hc := Nat.mul_comm per q
  split
  · constructor
    · intro h
      have := a j q (by omega); omega
    · intro h
      apply Decidable.byContradiction; intro h'
      have := a (q + 1) j (by omega)
      rw [Nat.succ_mul] at this; omega
  · constructor
    · intro h
      have := a (j + 1) q (by omega)
      rw [Nat.succ_mul] at this; omega
    · intro h
      apply Decidable.byContradiction; intro h'
      have := a q j (by omega); omega
theorem cnt_next (i p per : Nat) (hp : p < per) : cntM (i + 1) p per = cntM i p per + (if i % per = p then 1 else 0) := by
  have h1 := Nat.div_add_mod i per
  have h2 := Nat.mod_lt i (show per > 0 by omega)
  unfold cntM
  generalize i / per = q at *
  generalize i % per = r at *
  by_cases h3 : r + 1 < per
  · have e1 : (i + 1) / per = q := by rw [← h1, Nat.add_assoc, Nat.mul_add_div (by omega), Nat.div_eq_of_lt h3, Nat.add_zero]
    have e2 : (i + 1) % per = r + 1 := by rw [← h1, Nat.add_assoc, Nat.mul_add_mod, Nat.mod_eq_of_lt h3]
    rw [e1, e2]
    repeat' split
    all_goals omega
  · have e : i + 1 = per * (q + 1) := by rw [Nat.mul_succ]; omega
    rw [e, Nat.mul_div_cancel_left _ (by omega), Nat.mul_mod_right]
    repeat' split
    all_goals omega
theorem cnt_at (i per : Nat) : i % per + cntM i (i % per) per * per = i := by
  unfold cntM
  rw [if_neg (by omega), Nat.add_zero, Nat.add_comm, Nat.mul_comm]
  exact Nat.div_add_mod i per
theorem cnt_zero (p per : Nat) : cntM 0 p per = 0 := by simp [cntM]
theorem tab_set {α : Type} (n : Nat) (f : Nat → α) (a : Nat) (v : α) : (tab n f).set a v = tab n fun p => if p = a then v else f p := by
  apply List.ext_getElem?
  intro i
  rw [List.getElem?_set]
  simp only [tab, List.length_map, List.length_range, List.getElem?_map]
  by_cases h : i < n
  · rw [List.getElem?_range h]
    by_cases h2 : a = i
    · subst h2; simp [h]
    · have h3 : ¬ (i = a) := fun e => h2 e.symm
      simp [h2, h3]
  · have : (List.range n)[i]? = none := by simp; omega
    rw [this]
    split
    · simp; omega
    · rfl
theorem sum_tab (n : Nat) (f : Nat → Nat) : sumM (tab n f) = accN (fun j s => fadd .f32 s (f j)) n 0 := by
  unfold sumM
  rw [tab_len]
  exact accN_congr fun i x hi => by rw [tab_get _ _ _ _ hi]
theorem mean_tab (n : Nat) (f : Nat → Nat) : meanM (tab n f) = fdiv .f32 (accN (fun j s => fadd .f32 s (f j)) n 0) (fofi .f32 n) := by
  unfold meanM; rw [sum_tab, tab_len]
theorem tmod_nat (a b : Nat) : Int.tmod (a : Int) (b : Int) = ((a % b : Nat) : Int) := rfl
theorem fold_len (xs : List Nat) (per : Nat) : (foldM xs per).length = per := tab_len _ _

-- FN impl_folded
/-- impl.folded: slots 37, results [.t 4]; calls [32:g_impl_mean]; names [(list, 0), (period, 1), (list, 2), (period, 3), (out, 5), (p, 6), (part, 7), (i, 8)] -/
def ps_impl_folded : List Nat := [0, 1, 4, 5, 6, 7, 8, 10, 11, 12, 19]
def lv_impl_folded_L0 : List Nat := [0, 1, 5, 10, 11]
def lv_impl_folded_L2 : List Nat := [0, 1, 5, 7, 8, 10, 11]
def b_impl_folded_L2 (g_impl_mean : FuncId) : VCode :=
  (.seq
   (.seq
    (.region false [
     ⟨some 16, .mv, [.t 8], none⟩,
     ⟨some 17, .mv, [.t 0], none⟩,
     ⟨some 18, .len, [.t 17], none⟩,
     ⟨some 19, (.bin .lss), [.t 16, .t 18], none⟩])
    (.cond (.t 19)
     .skip
     (.exit 2)))
   (.seq
    (.block 3
     (.region false [
      ⟨some 23, .mv, [.t 7], none⟩,
      ⟨some 24, .mv, [.t 0], none⟩,
      ⟨some 25, .mv, [.t 8], none⟩,
      ⟨some 26, .iaddr, [.t 24, .t 25], none⟩,
      ⟨some 27, .load, [.t 26], none⟩,
      ⟨some 28, (.lit true (.f .f32 [])), [.t 27], none⟩,
      ⟨some 29, .app, [.t 23, .t 28], none⟩,
      ⟨some 7, .mv, [.t 29], none⟩]))
    (.region false [
     ⟨some 20, .mv, [.t 8], none⟩,
     ⟨some 21, .mv, [.t 1], none⟩,
     ⟨some 22, (.bin .add), [.t 20, .t 21], none⟩,
     ⟨some 8, .mv, [.t 22], none⟩])))

def b_impl_folded_L0 (g_impl_mean : FuncId) : VCode :=
  (.seq
   (.region false [
    ⟨some 12, (.bin .lss), [.t 11, .t 10], none⟩])
   (.seq
    (.cond (.t 12)
     .skip
     (.exit 0))
    (.seq
     (.block 1
      (.seq
       (.region false [
        ⟨some 13, .mv, [.t 11], none⟩,
        ⟨some 6, .mv, [.t 13], none⟩])
       (.seq
        (.region false [
         ⟨some 14, (.lit true (.f .f32 [])), [], none⟩,
         ⟨some 7, .mv, [.t 14], none⟩])
        (.seq
         (.seq
          (.region false [
           ⟨some 15, .mv, [.t 6], none⟩,
           ⟨some 8, .mv, [.t 15], none⟩])
          (.block 2 (.loop (b_impl_folded_L2 g_impl_mean))))
         (.region false [
          ⟨some 30, .mv, [.t 5], none⟩,
          ⟨some 31, .mv, [.t 7], none⟩,
          ⟨some 32, (.call g_impl_mean), [.t 31], none⟩,
          ⟨some 33, (.lit true (.f .f32 [])), [.t 32], none⟩,
          ⟨some 34, .app, [.t 30, .t 33], none⟩,
          ⟨some 5, .mv, [.t 34], none⟩])))))
     (.region false [
      ⟨some 35, (.bin .add), [.t 11, .k (.i .i64 1)], none⟩,
      ⟨some 11, .mv, [.t 35], none⟩]))))

def b_impl_folded (g_impl_mean : FuncId) : VCode :=
  (.seq
   (.region false [
    ⟨some 4, (.nilsl (.f .f32 [])), [], none⟩])
   (.seq
    (.region false [
     ⟨some 9, (.lit true (.f .f32 [])), [], none⟩,
     ⟨some 5, .mv, [.t 9], none⟩])
    (.seq
     (.seq
      (.region false [
       ⟨some 10, .mv, [.t 1], none⟩,
       ⟨some 11, .mv, [.k (.i .i64 0)], none⟩])
      (.block 0 (.loop (b_impl_folded_L0 g_impl_mean))))
     (.seq
      (.region false [
       ⟨some 36, .mv, [.t 5], none⟩,
       ⟨some 4, .mv, [.t 36], none⟩])
      .ret))))

abbrev Is_impl_folded (P : Program) (g_f : FuncId) (g_impl_mean : FuncId) : Prop := FnIs P g_f 37 [.t 4] (b_impl_folded g_impl_mean)

abbrev C_impl_folded (P : Program) (g_f : FuncId) : Prop := ∀ (xs : List Nat) (per : Int) (hp : 1 ≤ per ∧ per ≤ xs.length) (hx : xs.length ≤ 96), VCall P g_f [PS [0] .f32 xs, .i .i64 per] (OS 0 .f32 (foldM xs per.toNat))
def oc1_impl_folded (as : List AV) : T AV := match as with | [.sl _ _ (.f .f32 xs), .i .i64 per] => .leaf (OS 0 .f32 (foldM xs per.toNat)) | _ => .fail
def oc_impl_folded (xs : List Nat) (per : Int) (d : Nat) (as : List AV) : T AV := match d with | 32 => oc1_impl_mean as | _ => .fail
def h_impl_folded_L0 (xs : List Nat) (per : Int) (out : List Nat) (v11 : Int) : Env := [AV.sl (Tag.par [0]) 0 (Cont.f FloatKind.f32 xs), AV.i IntKind.i64 per, .any, .any, .any, .sl (Tag.own 72) 0 (.f FloatKind.f32 out)] ++ anys 4 ++ [AV.i IntKind.i64 per, .i IntKind.i64 v11] ++ anys 25
def h_impl_folded_L2 (xs : List Nat) (per : Int) (out : List Nat) (v11 : Int) (out2 : List Nat) (part : List Nat) (i : Int) : Env := [AV.sl (Tag.par [0]) 0 (Cont.f FloatKind.f32 xs), AV.i IntKind.i64 per, .any, .any, .any, .sl (Tag.own 72) 0 (.f FloatKind.f32 out2), .any, .sl (Tag.own 112) 0 (.f FloatKind.f32 part), .i IntKind.i64 i, .any, AV.i IntKind.i64 per, AV.i IntKind.i64 v11] ++ anys 25

theorem q_impl_folded_L0 {VC : FuncId → List AV → AV → Prop} {g_impl_mean : FuncId} (xs : List Nat) (per : Int) (out : List Nat) (v11 : Int) {e_ : Ex} {σ_ : Env} (ht : T.ok (fun x_ => x_ = (e_, σ_)) (
      T.ite (decide (v11 < per))
        (T.ob
          (Exec VC ps_impl_folded (VCode.block 2 (VCode.loop (b_impl_folded_L2 g_impl_mean))) (h_impl_folded_L2 xs per out v11 out [] v11) Ex.normal
            (h_impl_folded_L2 xs per out v11 out (tab (cntM (List.length xs) (Int.toNat v11) (Int.toNat per)) fun (j : Nat) => List.getD xs (Int.toNat v11 + j * Int.toNat per) 0)
              (↑(Int.toNat v11 + cntM (List.length xs) (Int.toNat v11) (Int.toNat per) * Int.toNat per) : Int)))
          (T.ob
            (VC g_impl_mean [AV.sl (Tag.par [0]) 0 (Cont.f FloatKind.f32 (tab (cntM (List.length xs) (Int.toNat v11) (Int.toNat per)) fun (j : Nat) => List.getD xs (Int.toNat v11 + j * Int.toNat per) 0))]
              (AV.f FloatKind.f32 (meanM (tab (cntM (List.length xs) (Int.toNat v11) (Int.toNat per)) fun (j : Nat) => List.getD xs (Int.toNat v11 + j * Int.toNat per) 0))))
            (T.ob (List.length out + List.length [meanM (tab (cntM (List.length xs) (Int.toNat v11) (Int.toNat per)) fun (j : Nat) => List.getD xs (Int.toNat v11 + j * Int.toNat per) 0)] ≤ 4294967296)
              (T.leaf
                (Ex.normal,
                  h_impl_folded_L0 xs per (out ++ [meanM (tab (cntM (List.length xs) (Int.toNat v11) (Int.toNat per)) fun (j : Nat) => List.getD xs (Int.toNat v11 + j * Int.toNat per) 0)])
                    (IntKind.wrap IntKind.i64 (v11 + 1)))))))
        (T.leaf (Ex.exit 0, h_impl_folded_L0 xs per out v11)))) :
    Exec VC ps_impl_folded (b_impl_folded_L0 g_impl_mean) (h_impl_folded_L0 xs per out v11) e_ σ_ := evL_of (lv := lv_impl_folded_L0) (rs := [4]) (O := ⟨oc_impl_folded xs per, fun id σ => match id with | 2 => some (lv_impl_folded_L2, .leaf (.normal, h_impl_folded_L2 xs per out v11 out (tab (cntM xs.length v11.toNat per.toNat) fun j => xs.getD (v11.toNat + j * per.toNat) 0) ((v11.toNat + cntM xs.length v11.toNat per.toNat * per.toNat : Nat) : Int))) | _ => none⟩) (by kernel_rfl) ht

theorem q_impl_folded_L2 {VC : FuncId → List AV → AV → Prop} {g_impl_mean : FuncId} (xs : List Nat) (per : Int) (out : List Nat) (v11 : Int) (out2 : List Nat) (part : List Nat) (i : Int) {e_ : Ex} {σ_ : Env} (ht : T.ok (fun x_ => x_ = (e_, σ_)) (
      T.ite (decide (i < (↑(List.length xs) : Int)))
        (T.ob (0 ≤ i ∧ i < (↑(List.length xs) : Int))
          (T.ob (List.length part + List.length [List.getD xs (Int.toNat i) 0] ≤ 4294967296)
            (T.leaf (Ex.normal, h_impl_folded_L2 xs per out v11 out2 (part ++ [List.getD xs (Int.toNat i) 0]) (IntKind.wrap IntKind.i64 (i + per))))))
        (T.leaf (Ex.exit 2, h_impl_folded_L2 xs per out v11 out2 part i)))) :
    Exec VC ps_impl_folded (b_impl_folded_L2 g_impl_mean) (h_impl_folded_L2 xs per out v11 out2 part i) e_ σ_ := evL_of (lv := lv_impl_folded_L2) (rs := [4]) (O := ⟨oc_impl_folded xs per, fun _ _ => none⟩) (by kernel_rfl) ht

theorem q_impl_folded {P : Program} {g_f : FuncId} {g_impl_mean : FuncId} (h_ : Is_impl_folded P g_f g_impl_mean) (xs : List Nat) (per : Int) (ht : T.ok (fun x_ => x_ = OS 0 .f32 (foldM xs per.toNat)) (
      T.ob (Exec (VCall P) ps_impl_folded (VCode.block 0 (VCode.loop (b_impl_folded_L0 g_impl_mean))) (h_impl_folded_L0 xs per [] 0) Ex.normal (h_impl_folded_L0 xs per (foldM xs (Int.toNat per)) per))
        (T.leaf (AV.sl (Tag.own 0) 0 (Cont.f FloatKind.f32 (foldM xs (Int.toNat per))))))) :
    VCall P g_f [PS [0] .f32 xs, .i .i64 per] (OS 0 .f32 (foldM xs per.toNat)) := h_.call_of ps_impl_folded ⟨oc_impl_folded xs per, fun id σ => match id with | 0 => some (lv_impl_folded_L0, .leaf (.normal, h_impl_folded_L0 xs per (foldM xs per.toNat) per)) | _ => none⟩ (by kernel_rfl) ht

-- END impl_folded

-- FN impl_restOfFold
/-- impl.restOfFold: slots 32, results [.t 4]; calls []; names [(a, 0), (means, 1), (a, 2), (means, 3), (sum, 5), (i, 6), (x, 7), (d, 8)] -/
def ps_impl_restOfFold : List Nat := [0, 1, 4, 5, 6, 7, 8, 9, 10, 11, 12]
def lv_impl_restOfFold_L0 : List Nat := [1, 5, 9, 10, 11]
def b_impl_restOfFold_L0 : VCode :=
  (.seq
   (.region false [
    ⟨some 12, (.bin .lss), [.t 11, .t 10], none⟩])
   (.seq
    (.cond (.t 12)
     .skip
     (.exit 0))
    (.seq
     (.block 1
      (.seq
       (.region false [
        ⟨some 13, .mv, [.t 11], none⟩,
        ⟨some 14, .iaddr, [.t 9, .t 11], none⟩,
        ⟨some 15, .load, [.t 14], none⟩,
        ⟨some 6, .mv, [.t 13], none⟩,
        ⟨some 7, .mv, [.t 15], none⟩])
       (.seq
        (.region false [
         ⟨some 16, .mv, [.t 7], none⟩,
         ⟨some 17, .mv, [.t 1], none⟩,
         ⟨some 18, .mv, [.t 6], none⟩,
         ⟨some 19, .mv, [.t 1], none⟩,
         ⟨some 20, .len, [.t 19], none⟩,
         ⟨some 21, (.bin .rem), [.t 18, .t 20], none⟩,
         ⟨some 22, .iaddr, [.t 17, .t 21], none⟩,
         ⟨some 23, .load, [.t 22], none⟩,
         ⟨some 24, (.bin .sub), [.t 16, .t 23], none⟩,
         ⟨some 8, .mv, [.t 24], none⟩])
        (.region false [
         ⟨some 25, .mv, [.t 5], none⟩,
         ⟨some 26, .mv, [.t 8], none⟩,
         ⟨some 27, .mv, [.t 8], none⟩,
         ⟨some 28, (.bin .mul), [.t 26, .t 27], none⟩,
         ⟨some 29, (.bin .add), [.t 25, .t 28], none⟩,
         ⟨some 5, .mv, [.t 29], none⟩]))))
     (.region false [
      ⟨some 30, (.bin .add), [.t 11, .k (.i .i64 1)], none⟩,
      ⟨some 11, .mv, [.t 30], none⟩]))))

def b_impl_restOfFold : VCode :=
  (.seq
   (.region false [
    ⟨some 4, .mv, [.k (.f .f32 0)], none⟩])
   (.seq
    (.region false [
     ⟨some 5, .mv, [.k (.f .f32 0)], none⟩])
    (.seq
     (.seq
      (.region false [
       ⟨some 9, .mv, [.t 0], none⟩,
       ⟨some 10, .len, [.t 9], none⟩,
       ⟨some 11, .mv, [.k (.i .i64 0)], none⟩])
      (.block 0 (.loop b_impl_restOfFold_L0)))
     (.seq
      (.region false [
       ⟨some 31, .mv, [.t 5], none⟩,
       ⟨some 4, .mv, [.t 31], none⟩])
      .ret))))

abbrev Is_impl_restOfFold (P : Program) (g_f : FuncId) : Prop := FnIs P g_f 32 [.t 4] (b_impl_restOfFold)

abbrev C_impl_restOfFold (P : Program) (g_f : FuncId) : Prop := ∀ (xs : List Nat) (ms : List Nat) (hm : 1 ≤ ms.length ∧ ms.length ≤ xs.length) (hx : xs.length ≤ 96), VCall P g_f [PS [0] .f32 xs, PS [1] .f32 ms] (.f .f32 (leftM xs ms))
def oc1_impl_restOfFold (as : List AV) : T AV := match as with | [.sl _ _ (.f .f32 xs), .sl _ _ (.f .f32 ms)] => .leaf (.f .f32 (leftM xs ms)) | _ => .fail
def h_impl_restOfFold_L0 (xs : List Nat) (ms : List Nat) (sum : Nat) (v11 : Int) : Env := [.any, AV.sl (Tag.par [1]) 0 (Cont.f FloatKind.f32 ms), .any, .any, .any, .f FloatKind.f32 sum, .any, .any, .any, AV.sl (Tag.par [0]) 0 (Cont.f FloatKind.f32 xs), AV.i IntKind.i64 (↑(List.length xs) : Int), .i IntKind.i64 v11] ++ anys 20

theorem q_impl_restOfFold_L0 {VC : FuncId → List AV → AV → Prop} (xs : List Nat) (ms : List Nat) (sum : Nat) (v11 : Int) {e_ : Ex} {σ_ : Env} (ht : T.ok (fun x_ => x_ = (e_, σ_)) (
      T.ite (decide (v11 < (↑(List.length xs) : Int)))
        (T.ob (0 ≤ v11 ∧ v11 < (↑(List.length xs) : Int))
          (T.ob ((↑(List.length ms) : Int) ≠ 0)
            (T.ob (0 ≤ Int.tmod v11 (↑(List.length ms) : Int) ∧ Int.tmod v11 (↑(List.length ms) : Int) < (↑(List.length ms) : Int))
              (T.leaf
                (Ex.normal,
                  h_impl_restOfFold_L0 xs ms
                    (fadd FloatKind.f32 sum
                      (fmul FloatKind.f32 (fsub FloatKind.f32 (List.getD xs (Int.toNat v11) 0) (List.getD ms (Int.toNat (Int.tmod v11 (↑(List.length ms) : Int))) 0))
                        (fsub FloatKind.f32 (List.getD xs (Int.toNat v11) 0) (List.getD ms (Int.toNat (Int.tmod v11 (↑(List.length ms) : Int))) 0))))
                    (IntKind.wrap IntKind.i64 (v11 + 1)))))))
        (T.leaf (Ex.exit 0, h_impl_restOfFold_L0 xs ms sum v11)))) :
    Exec VC ps_impl_restOfFold (b_impl_restOfFold_L0) (h_impl_restOfFold_L0 xs ms sum v11) e_ σ_ := evL_of (lv := lv_impl_restOfFold_L0) (rs := [4]) (O := ⟨fun _ _ => .fail, fun _ _ => none⟩) (by kernel_rfl) ht

theorem q_impl_restOfFold {P : Program} {g_f : FuncId} (h_ : Is_impl_restOfFold P g_f) (xs : List Nat) (ms : List Nat) (ht : T.ok (fun x_ => x_ = .f .f32 (leftM xs ms)) (
      T.ob (Exec (VCall P) ps_impl_restOfFold (VCode.block 0 (VCode.loop b_impl_restOfFold_L0)) (h_impl_restOfFold_L0 xs ms 0 0) Ex.normal (h_impl_restOfFold_L0 xs ms (leftM xs ms) (↑(List.length xs) : Int)))
        (T.leaf (AV.f FloatKind.f32 (leftM xs ms))))) :
    VCall P g_f [PS [0] .f32 xs, PS [1] .f32 ms] (.f .f32 (leftM xs ms)) := h_.call_of ps_impl_restOfFold ⟨fun _ _ => .fail, fun id σ => match id with | 0 => some (lv_impl_restOfFold_L0, .leaf (.normal, h_impl_restOfFold_L0 xs ms (leftM xs ms) xs.length)) | _ => none⟩ (by kernel_rfl) ht

-- END impl_restOfFold

-- FN spec_l03Fold
/-- spec.l03Fold: slots 86, results [.t 4, .t 5]; calls []; names [(a, 0), (period, 1), (a, 2), (period, 3), (sums, 6), (counts, 7), (i, 8), (at, 9), (i, 10), (left, 11), (i, 12), (d, 13)] -/
def ps_spec_l03Fold : List Nat := [0, 1, 4, 5, 6, 7, 8, 9, 10, 11, 12, 13, 19, 20, 21, 44, 45, 46, 63, 64, 65]
def lv_spec_l03Fold_L0 : List Nat := [0, 1, 6, 7, 19, 20]
def lv_spec_l03Fold_L2 : List Nat := [0, 1, 6, 7, 44, 45]
def lv_spec_l03Fold_L4 : List Nat := [0, 1, 6, 11, 63, 64]
def b_spec_l03Fold_L0 : VCode :=
  (.seq
   (.region false [
    ⟨some 21, (.bin .lss), [.t 20, .t 19], none⟩])
   (.seq
    (.cond (.t 21)
     .skip
     (.exit 0))
    (.seq
     (.block 1
      (.seq
       (.region false [
        ⟨some 22, .mv, [.t 20], none⟩,
        ⟨some 8, .mv, [.t 22], none⟩])
       (.seq
        (.region false [
         ⟨some 23, .mv, [.t 8], none⟩,
         ⟨some 24, .mv, [.t 1], none⟩,
         ⟨some 25, (.bin .rem), [.t 23, .t 24], none⟩,
         ⟨some 9, .mv, [.t 25], none⟩])
        (.seq
         (.region true [
          ⟨some 26, .mv, [.t 6], none⟩,
          ⟨some 27, .mv, [.t 9], none⟩,
          ⟨some 28, .iaddr, [.t 26, .t 27], none⟩,
          ⟨some 29, .load, [.t 28], none⟩,
          ⟨some 30, .mv, [.t 0], none⟩,
          ⟨some 31, .mv, [.t 8], none⟩,
          ⟨some 32, .iaddr, [.t 30, .t 31], none⟩,
          ⟨some 33, .load, [.t 32], none⟩,
          ⟨some 34, (.bin .add), [.t 29, .t 33], none⟩,
          ⟨some 35, .iaddr, [.t 26, .t 27], none⟩,
          ⟨none, .store, [.t 35, .t 34], none⟩])
         (.region false [
          ⟨some 36, .mv, [.t 7], none⟩,
          ⟨some 37, .mv, [.t 9], none⟩,
          ⟨some 38, .iaddr, [.t 36, .t 37], none⟩,
          ⟨some 39, .load, [.t 38], none⟩,
          ⟨some 40, (.bin .add), [.t 39, .k (.i .i64 1)], none⟩,
          ⟨some 41, .iaddr, [.t 36, .t 37], none⟩,
          ⟨none, .store, [.t 41, .t 40], none⟩])))))
     (.region false [
      ⟨some 42, (.bin .add), [.t 20, .k (.i .i64 1)], none⟩,
      ⟨some 20, .mv, [.t 42], none⟩]))))

def b_spec_l03Fold_L2 : VCode :=
  (.seq
   (.region false [
    ⟨some 46, (.bin .lss), [.t 45, .t 44], none⟩])
   (.seq
    (.cond (.t 46)
     .skip
     (.exit 2))
    (.seq
     (.block 3
      (.seq
       (.region false [
        ⟨some 47, .mv, [.t 45], none⟩,
        ⟨some 10, .mv, [.t 47], none⟩])
       (.region true [
        ⟨some 48, .mv, [.t 6], none⟩,
        ⟨some 49, .mv, [.t 10], none⟩,
        ⟨some 50, .mv, [.t 6], none⟩,
        ⟨some 51, .mv, [.t 10], none⟩,
        ⟨some 52, .iaddr, [.t 50, .t 51], none⟩,
        ⟨some 53, .load, [.t 52], none⟩,
        ⟨some 54, .mv, [.t 7], none⟩,
        ⟨some 55, .mv, [.t 10], none⟩,
        ⟨some 56, .iaddr, [.t 54, .t 55], none⟩,
        ⟨some 57, .load, [.t 56], none⟩,
        ⟨some 58, (.convF .f32), [.t 57], none⟩,
        ⟨some 59, (.bin .quo), [.t 53, .t 58], none⟩,
        ⟨some 60, .iaddr, [.t 48, .t 49], none⟩,
        ⟨none, .store, [.t 60, .t 59], none⟩])))
     (.region false [
      ⟨some 61, (.bin .add), [.t 45, .k (.i .i64 1)], none⟩,
      ⟨some 45, .mv, [.t 61], none⟩]))))

def b_spec_l03Fold_L4 : VCode :=
  (.seq
   (.region false [
    ⟨some 65, (.bin .lss), [.t 64, .t 63], none⟩])
   (.seq
    (.cond (.t 65)
     .skip
     (.exit 4))
    (.seq
     (.block 5
      (.seq
       (.region false [
        ⟨some 66, .mv, [.t 64], none⟩,
        ⟨some 12, .mv, [.t 66], none⟩])
       (.seq
        (.region true [
         ⟨some 67, .mv, [.t 0], none⟩,
         ⟨some 68, .mv, [.t 12], none⟩,
         ⟨some 69, .iaddr, [.t 67, .t 68], none⟩,
         ⟨some 70, .load, [.t 69], none⟩,
         ⟨some 71, .mv, [.t 6], none⟩,
         ⟨some 72, .mv, [.t 12], none⟩,
         ⟨some 73, .mv, [.t 1], none⟩,
         ⟨some 74, (.bin .rem), [.t 72, .t 73], none⟩,
         ⟨some 75, .iaddr, [.t 71, .t 74], none⟩,
         ⟨some 76, .load, [.t 75], none⟩,
         ⟨some 77, (.bin .sub), [.t 70, .t 76], none⟩,
         ⟨some 13, .mv, [.t 77], none⟩])
        (.region false [
         ⟨some 78, .mv, [.t 11], none⟩,
         ⟨some 79, .mv, [.t 13], none⟩,
         ⟨some 80, .mv, [.t 13], none⟩,
         ⟨some 81, (.bin .mul), [.t 79, .t 80], none⟩,
         ⟨some 82, (.bin .add), [.t 78, .t 81], none⟩,
         ⟨some 11, .mv, [.t 82], none⟩]))))
     (.region false [
      ⟨some 83, (.bin .add), [.t 64, .k (.i .i64 1)], none⟩,
      ⟨some 64, .mv, [.t 83], none⟩]))))

def b_spec_l03Fold : VCode :=
  (.seq
   (.region false [
    ⟨some 4, (.nilsl (.f .f32 [])), [], none⟩,
    ⟨some 5, .mv, [.k (.f .f32 0)], none⟩])
   (.seq
    (.region false [
     ⟨some 14, .mv, [.t 1], none⟩,
     ⟨some 15, (.mksl (.f .f32 0)), [.t 14, .t 14], none⟩,
     ⟨some 6, .mv, [.t 15], none⟩])
    (.seq
     (.region false [
      ⟨some 16, .mv, [.t 1], none⟩,
      ⟨some 17, (.mksl (.i .i64 0)), [.t 16, .t 16], none⟩,
      ⟨some 7, .mv, [.t 17], none⟩])
     (.seq
      (.seq
       (.region false [
        ⟨some 18, .mv, [.t 0], none⟩,
        ⟨some 19, .len, [.t 18], none⟩,
        ⟨some 20, .mv, [.k (.i .i64 0)], none⟩])
       (.block 0 (.loop b_spec_l03Fold_L0)))
      (.seq
       (.seq
        (.region false [
         ⟨some 43, .mv, [.t 6], none⟩,
         ⟨some 44, .len, [.t 43], none⟩,
         ⟨some 45, .mv, [.k (.i .i64 0)], none⟩])
        (.block 2 (.loop b_spec_l03Fold_L2)))
       (.seq
        (.region false [
         ⟨some 11, .mv, [.k (.f .f32 0)], none⟩])
        (.seq
         (.seq
          (.region false [
           ⟨some 62, .mv, [.t 0], none⟩,
           ⟨some 63, .len, [.t 62], none⟩,
           ⟨some 64, .mv, [.k (.i .i64 0)], none⟩])
          (.block 4 (.loop b_spec_l03Fold_L4)))
         (.seq
          (.region false [
           ⟨some 84, .mv, [.t 6], none⟩,
           ⟨some 85, .mv, [.t 11], none⟩,
           ⟨some 4, .mv, [.t 84], none⟩,
           ⟨some 5, .mv, [.t 85], none⟩])
          .ret))))))))

abbrev Is_spec_l03Fold (P : Program) (g_f : FuncId) : Prop := FnIs P g_f 86 [.t 4, .t 5] (b_spec_l03Fold)

abbrev C_spec_l03Fold (P : Program) (g_f : FuncId) : Prop := ∀ (xs : List Nat) (per : Int) (hp : 1 ≤ per ∧ per ≤ xs.length) (hx : xs.length ≤ 96), VCall P g_f [PS [0] .f32 xs, .i .i64 per] (.tup [OS 0 .f32 (foldM xs per.toNat), .f .f32 (leftM xs (foldM xs per.toNat))])
def oc1_spec_l03Fold (as : List AV) : T AV := match as with | [.sl _ _ (.f .f32 xs), .i .i64 per] => .leaf (.tup [OS 0 .f32 (foldM xs per.toNat), .f .f32 (leftM xs (foldM xs per.toNat))]) | _ => .fail
def h_spec_l03Fold_L0 (xs : List Nat) (per : Int) (sums : List Nat) (counts : List Int) (v20 : Int) : Env := [AV.sl (Tag.par [0]) 0 (Cont.f FloatKind.f32 xs), AV.i IntKind.i64 per] ++ anys 4 ++ [.sl (Tag.own 120) 0 (.f FloatKind.f32 sums), .sl (Tag.own 136) 0 (.i IntKind.i64 counts)] ++ anys 11 ++ [AV.i IntKind.i64 (↑(List.length xs) : Int), .i IntKind.i64 v20] ++ anys 65
def h_spec_l03Fold_L2 (xs : List Nat) (per : Int) (sums : List Nat) (counts : List Int) (v45 : Int) : Env := [AV.sl (Tag.par [0]) 0 (Cont.f FloatKind.f32 xs), AV.i IntKind.i64 per] ++ anys 4 ++ [.sl (Tag.own 120) 0 (.f FloatKind.f32 sums), .sl (Tag.own 136) 0 (.i IntKind.i64 counts)] ++ anys 36 ++ [AV.i IntKind.i64 (↑(List.length (tab (Int.toNat per) fun (p : Nat) => fsumM xs (Int.toNat per) p (cntM (List.length xs) p (Int.toNat per)))) : Int), .i IntKind.i64 v45] ++ anys 40
def h_spec_l03Fold_L4 (xs : List Nat) (per : Int) (left : Nat) (v64 : Int) : Env := [AV.sl (Tag.par [0]) 0 (Cont.f FloatKind.f32 xs), AV.i IntKind.i64 per] ++ anys 4 ++ [AV.sl (Tag.own 120) 0 (Cont.f FloatKind.f32 (foldM xs (Int.toNat per)))] ++ anys 4 ++ [.f FloatKind.f32 left] ++ anys 51 ++ [AV.i IntKind.i64 (↑(List.length xs) : Int), .i IntKind.i64 v64] ++ anys 21

theorem q_spec_l03Fold_L0 {VC : FuncId → List AV → AV → Prop} (xs : List Nat) (per : Int) (sums : List Nat) (counts : List Int) (v20 : Int) {e_ : Ex} {σ_ : Env} (ht : T.ok (fun x_ => x_ = (e_, σ_)) (
      T.ite (decide (v20 < (↑(List.length xs) : Int)))
        (T.ob (per ≠ 0)
          (T.ob (0 ≤ Int.tmod v20 per ∧ Int.tmod v20 per < (↑(List.length sums) : Int))
            (T.ob (0 ≤ v20 ∧ v20 < (↑(List.length xs) : Int))
              (T.ob (0 ≤ Int.tmod v20 per ∧ Int.tmod v20 per < (↑(List.length sums) : Int))
                (T.ob (false = false)
                  (T.ob (0 ≤ Int.tmod v20 per ∧ Int.tmod v20 per < (↑(List.length counts) : Int))
                    (T.ob (0 ≤ Int.tmod v20 per ∧ Int.tmod v20 per < (↑(List.length counts) : Int))
                      (T.ob (false = false)
                        (T.leaf
                          (Ex.normal,
                            h_spec_l03Fold_L0 xs per (List.set sums (0 + Int.toNat (Int.tmod v20 per) - 0) (fadd FloatKind.f32 (List.getD sums (Int.toNat (Int.tmod v20 per)) 0) (List.getD xs (Int.toNat v20) 0)))
                              (List.set counts (0 + Int.toNat (Int.tmod v20 per) - 0) (IntKind.wrap IntKind.i64 (List.getD counts (Int.toNat (Int.tmod v20 per)) 0 + 1))) (IntKind.wrap IntKind.i64 (v20 + 1))))))))))))
        (T.leaf (Ex.exit 0, h_spec_l03Fold_L0 xs per sums counts v20)))) :
    Exec VC ps_spec_l03Fold (b_spec_l03Fold_L0) (h_spec_l03Fold_L0 xs per sums counts v20) e_ σ_ := evL_of (lv := lv_spec_l03Fold_L0) (rs := [4, 5]) (O := ⟨fun _ _ => .fail, fun _ _ => none⟩) (by kernel_rfl) ht

theorem q_spec_l03Fold_L2 {VC : FuncId → List AV → AV → Prop} (xs : List Nat) (per : Int) (sums : List Nat) (counts : List Int) (v45 : Int) {e_ : Ex} {σ_ : Env} (ht : T.ok (fun x_ => x_ = (e_, σ_)) (
      T.ite (decide (v45 < (↑(List.length (tab (Int.toNat per) fun (p : Nat) => fsumM xs (Int.toNat per) p (cntM (List.length xs) p (Int.toNat per)))) : Int)))
        (T.ob (0 ≤ v45 ∧ v45 < (↑(List.length sums) : Int))
          (T.ob (0 ≤ v45 ∧ v45 < (↑(List.length counts) : Int))
            (T.ob True
              (T.ob True
                (T.ob (0 ≤ v45 ∧ v45 < (↑(List.length sums) : Int))
                  (T.ob (false = false)
                    (T.leaf
                      (Ex.normal,
                        h_spec_l03Fold_L2 xs per (List.set sums (0 + Int.toNat v45 - 0) (fdiv FloatKind.f32 (List.getD sums (Int.toNat v45) 0) (fofi FloatKind.f32 (List.getD counts (Int.toNat v45) 0)))) counts
                          (IntKind.wrap IntKind.i64 (v45 + 1))))))))))
        (T.leaf (Ex.exit 2, h_spec_l03Fold_L2 xs per sums counts v45)))) :
    Exec VC ps_spec_l03Fold (b_spec_l03Fold_L2) (h_spec_l03Fold_L2 xs per sums counts v45) e_ σ_ := evL_of (lv := lv_spec_l03Fold_L2) (rs := [4, 5]) (O := ⟨fun _ _ => .fail, fun _ _ => none⟩) (by kernel_rfl) ht

theorem q_spec_l03Fold_L4 {VC : FuncId → List AV → AV → Prop} (xs : List Nat) (per : Int) (left : Nat) (v64 : Int) {e_ : Ex} {σ_ : Env} (ht : T.ok (fun x_ => x_ = (e_, σ_)) (
      T.ite (decide (v64 < (↑(List.length xs) : Int)))
        (T.ob (0 ≤ v64 ∧ v64 < (↑(List.length xs) : Int))
          (T.ob (per ≠ 0)
            (T.ob (0 ≤ Int.tmod v64 per ∧ Int.tmod v64 per < (↑(List.length (foldM xs (Int.toNat per))) : Int))
              (T.leaf
                (Ex.normal,
                  h_spec_l03Fold_L4 xs per
                    (fadd FloatKind.f32 left
                      (fmul FloatKind.f32 (fsub FloatKind.f32 (List.getD xs (Int.toNat v64) 0) (List.getD (foldM xs (Int.toNat per)) (Int.toNat (Int.tmod v64 per)) 0))
                        (fsub FloatKind.f32 (List.getD xs (Int.toNat v64) 0) (List.getD (foldM xs (Int.toNat per)) (Int.toNat (Int.tmod v64 per)) 0))))
                    (IntKind.wrap IntKind.i64 (v64 + 1)))))))
        (T.leaf (Ex.exit 4, h_spec_l03Fold_L4 xs per left v64)))) :
    Exec VC ps_spec_l03Fold (b_spec_l03Fold_L4) (h_spec_l03Fold_L4 xs per left v64) e_ σ_ := evL_of (lv := lv_spec_l03Fold_L4) (rs := [4, 5]) (O := ⟨fun _ _ => .fail, fun _ _ => none⟩) (by kernel_rfl) ht

theorem q_spec_l03Fold {P : Program} {g_f : FuncId} (h_ : Is_spec_l03Fold P g_f) (xs : List Nat) (per : Int) (ht : T.ok (fun x_ => x_ = .tup [OS 0 .f32 (foldM xs per.toNat), .f .f32 (leftM xs (foldM xs per.toNat))]) (
      T.ob (per = per ∧ 0 ≤ per ∧ per ≤ 4294967296)
        (T.ob (per = per ∧ 0 ≤ per ∧ per ≤ 4294967296)
          (T.ob
            (Exec (VCall P) ps_spec_l03Fold (VCode.block 0 (VCode.loop b_spec_l03Fold_L0)) (h_spec_l03Fold_L0 xs per (List.replicate (Int.toNat per) 0) (List.replicate (Int.toNat per) 0) 0) Ex.normal
              (h_spec_l03Fold_L0 xs per (tab (Int.toNat per) fun (p : Nat) => fsumM xs (Int.toNat per) p (cntM (List.length xs) p (Int.toNat per)))
                (tab (Int.toNat per) fun (p : Nat) => (↑(cntM (List.length xs) p (Int.toNat per)) : Int)) (↑(List.length xs) : Int)))
            (T.ob
              (Exec (VCall P) ps_spec_l03Fold (VCode.block 2 (VCode.loop b_spec_l03Fold_L2))
                (h_spec_l03Fold_L2 xs per (tab (Int.toNat per) fun (p : Nat) => fsumM xs (Int.toNat per) p (cntM (List.length xs) p (Int.toNat per)))
                  (tab (Int.toNat per) fun (p : Nat) => (↑(cntM (List.length xs) p (Int.toNat per)) : Int)) 0)
                Ex.normal (h_spec_l03Fold_L2 xs per (foldM xs (Int.toNat per)) (tab (Int.toNat per) fun (p : Nat) => (↑(cntM (List.length xs) p (Int.toNat per)) : Int)) per))
              (T.ob (Exec (VCall P) ps_spec_l03Fold (VCode.block 4 (VCode.loop b_spec_l03Fold_L4)) (h_spec_l03Fold_L4 xs per 0 0) Ex.normal (h_spec_l03Fold_L4 xs per (leftM xs (foldM xs (Int.toNat per))) (↑(List.length xs) : Int)))
                (T.leaf (AV.tup [AV.sl (Tag.own 0) 0 (Cont.f FloatKind.f32 (foldM xs (Int.toNat per))), AV.f FloatKind.f32 (leftM xs (foldM xs (Int.toNat per)))])))))))) :
    VCall P g_f [PS [0] .f32 xs, .i .i64 per] (.tup [OS 0 .f32 (foldM xs per.toNat), .f .f32 (leftM xs (foldM xs per.toNat))]) := h_.call_of ps_spec_l03Fold ⟨fun _ _ => .fail, fun id σ => match id with | 0 => some (lv_spec_l03Fold_L0, .leaf (.normal, h_spec_l03Fold_L0 xs per (tab per.toNat fun p => fsumM xs per.toNat p (cntM xs.length p per.toNat)) (tab per.toNat fun p => (cntM xs.length p per.toNat : Int)) xs.length)) | 2 => some (lv_spec_l03Fold_L2, .leaf (.normal, h_spec_l03Fold_L2 xs per (foldM xs per.toNat) (tab per.toNat fun p => (cntM xs.length p per.toNat : Int)) per)) | 4 => some (lv_spec_l03Fold_L4, .leaf (.normal, h_spec_l03Fold_L4 xs per (leftM xs (foldM xs per.toNat)) xs.length)) | _ => none⟩ (by kernel_rfl) ht

-- END spec_l03Fold

def foldOk (xs : List Nat) (per : Int) : Bool := seriesM xs && (inM per 1 xs.length && (finAllM (foldM xs per.toNat) && finM (leftM xs (foldM xs per.toNat))))

-- FN impl_isPeriodOf
/-- impl.isPeriodOf: slots 13, results [.t 4]; calls [6:g_impl_IsSeries, 11:g_impl_within]; names [(list, 0), (period, 1), (list, 2), (period, 3)] -/
def ps_impl_isPeriodOf : List Nat := [0, 1, 4]
def b_impl_isPeriodOf (g_impl_IsSeries g_impl_within : FuncId) : VCode :=
  (.seq
   (.region false [
    ⟨some 4, .mv, [.k (.b false)], none⟩])
   (.seq
    (.region false [
     ⟨some 5, .mv, [.t 0], none⟩,
     ⟨some 6, (.call g_impl_IsSeries), [.t 5], none⟩,
     ⟨some 7, .mv, [.t 6], none⟩,
     ⟨some 8, .mv, [.t 1], some (7, true)⟩,
     ⟨some 9, .mv, [.t 0], some (7, true)⟩,
     ⟨some 10, .len, [.t 9], some (7, true)⟩,
     ⟨some 11, (.call g_impl_within), [.t 8, .k (.i .i64 1), .t 10], some (7, true)⟩,
     ⟨some 12, .pick, [.t 7, .t 11, .k (.b false)], none⟩,
     ⟨some 4, .mv, [.t 12], none⟩])
    .ret))

abbrev Is_impl_isPeriodOf (P : Program) (g_f : FuncId) (g_impl_IsSeries g_impl_within : FuncId) : Prop := FnIs P g_f 13 [.t 4] (b_impl_isPeriodOf g_impl_IsSeries g_impl_within)

abbrev C_impl_isPeriodOf (P : Program) (g_f : FuncId) : Prop := ∀ (xs : List Nat) (per : Int) (hx : xs.length ≤ maxLen), VCall P g_f [PS [0] .f32 xs, .i .i64 per] (.b (seriesM xs && inM per 1 xs.length))
def oc1_impl_isPeriodOf (as : List AV) : T AV := match as with | [.sl _ _ (.f .f32 xs), .i .i64 per] => .leaf (.b (seriesM xs && inM per 1 xs.length)) | _ => .fail
def oc_impl_isPeriodOf (xs : List Nat) (per : Int) (d : Nat) (as : List AV) : T AV := match d with | 6 => oc1_impl_IsSeries as | 11 => oc1_impl_within as | _ => .fail



theorem q_impl_isPeriodOf {P : Program} {g_f : FuncId} {g_impl_IsSeries g_impl_within : FuncId} (h_ : Is_impl_isPeriodOf P g_f g_impl_IsSeries g_impl_within) (xs : List Nat) (per : Int) (ht : T.ok (fun x_ => x_ = .b (seriesM xs && inM per 1 xs.length)) (
      T.ob ((VCall P) g_impl_IsSeries [AV.sl (Tag.par [0]) 0 (Cont.f FloatKind.f32 xs)] (AV.b (seriesM xs)))
        (T.ite (seriesM xs)
          (T.ob ((VCall P) g_impl_within [AV.i IntKind.i64 per, AV.i IntKind.i64 1, AV.i IntKind.i64 (↑(List.length xs) : Int)] (AV.b (inM per 1 (↑(List.length xs) : Int)))) (T.leaf (AV.b (inM per 1 (↑(List.length xs) : Int)))))
          (T.leaf (AV.b false))))) :
    VCall P g_f [PS [0] .f32 xs, .i .i64 per] (.b (seriesM xs && inM per 1 xs.length)) := h_.call_of ps_impl_isPeriodOf ⟨oc_impl_isPeriodOf xs per, fun _ _ => none⟩ (by kernel_rfl) ht

-- END impl_isPeriodOf


-- FN impl_FoldedBy
/-- impl.FoldedBy: slots 29, results [.t 4, .t 5, .t 6]; calls [11:g_impl_isPeriodOf, 15:g_impl_folded, 18:g_impl_restOfFold, 20:g_impl_areFinite, 24:g_impl_IsFinite]; names [(a, 0), (period, 1), (a, 2), (period, 3), (means, 7), (sum, 8)] -/
def ps_impl_FoldedBy : List Nat := [0, 1, 4, 5, 6, 7, 8, 12, 26]
def b_impl_FoldedBy (g_impl_isPeriodOf g_impl_folded g_impl_restOfFold g_impl_areFinite g_impl_IsFinite : FuncId) : VCode :=
  (.seq
   (.region false [
    ⟨some 4, (.nilsl (.f .f32 [])), [], none⟩,
    ⟨some 5, .mv, [.k (.f .f32 0)], none⟩,
    ⟨some 6, .mv, [.k (.b false)], none⟩])
   (.seq
    (.seq
     (.region false [
      ⟨some 9, .mv, [.t 0], none⟩,
      ⟨some 10, .mv, [.t 1], none⟩,
      ⟨some 11, (.call g_impl_isPeriodOf), [.t 9, .t 10], none⟩,
      ⟨some 12, .not, [.t 11], none⟩])
     (.cond (.t 12)
      (.seq
       (.region false [
        ⟨some 4, (.nilsl (.f .f32 [])), [], none⟩,
        ⟨some 5, .mv, [.k (.f .f32 0)], none⟩,
        ⟨some 6, .mv, [.k (.b false)], none⟩])
       .ret)
      .skip))
    (.seq
     (.region false [
      ⟨some 13, .mv, [.t 0], none⟩,
      ⟨some 14, .mv, [.t 1], none⟩,
      ⟨some 15, (.call g_impl_folded), [.t 13, .t 14], none⟩,
      ⟨some 7, .mv, [.t 15], none⟩])
     (.seq
      (.region false [
       ⟨some 16, .mv, [.t 0], none⟩,
       ⟨some 17, .mv, [.t 7], none⟩,
       ⟨some 18, (.call g_impl_restOfFold), [.t 16, .t 17], none⟩,
       ⟨some 8, .mv, [.t 18], none⟩])
      (.seq
       (.seq
        (.region false [
         ⟨some 19, .mv, [.t 7], none⟩,
         ⟨some 20, (.call g_impl_areFinite), [.t 19], none⟩,
         ⟨some 21, .not, [.t 20], none⟩,
         ⟨some 22, .mv, [.t 21], none⟩,
         ⟨some 23, .mv, [.t 8], some (22, false)⟩,
         ⟨some 24, (.call g_impl_IsFinite), [.t 23], some (22, false)⟩,
         ⟨some 25, .not, [.t 24], some (22, false)⟩,
         ⟨some 26, .pick, [.t 22, .k (.b true), .t 25], none⟩])
        (.cond (.t 26)
         (.seq
          (.region false [
           ⟨some 4, (.nilsl (.f .f32 [])), [], none⟩,
           ⟨some 5, .mv, [.k (.f .f32 0)], none⟩,
           ⟨some 6, .mv, [.k (.b false)], none⟩])
          .ret)
         .skip))
       (.seq
        (.region false [
         ⟨some 27, .mv, [.t 7], none⟩,
         ⟨some 28, .mv, [.t 8], none⟩,
         ⟨some 4, .mv, [.t 27], none⟩,
         ⟨some 5, .mv, [.t 28], none⟩,
         ⟨some 6, .mv, [.k (.b true)], none⟩])
        .ret))))))

abbrev Is_impl_FoldedBy (P : Program) (g_f : FuncId) (g_impl_isPeriodOf g_impl_folded g_impl_restOfFold g_impl_areFinite g_impl_IsFinite : FuncId) : Prop := FnIs P g_f 29 [.t 4, .t 5, .t 6] (b_impl_FoldedBy g_impl_isPeriodOf g_impl_folded g_impl_restOfFold g_impl_areFinite g_impl_IsFinite)

abbrev C_impl_FoldedBy (P : Program) (g_f : FuncId) : Prop := ∀ (xs : List Nat) (per : Int) (hx : xs.length ≤ maxLen), VCall P g_f [PS [0] .f32 xs, .i .i64 per] (.tup [OS 0 .f32 (if foldOk xs per = true then foldM xs per.toNat else []), .f .f32 (if foldOk xs per = true then leftM xs (foldM xs per.toNat) else 0), .b (foldOk xs per)])
def oc1_impl_FoldedBy (as : List AV) : T AV := match as with | [.sl _ _ (.f .f32 xs), .i .i64 per] => .leaf (.tup [OS 0 .f32 (if foldOk xs per = true then foldM xs per.toNat else []), .f .f32 (if foldOk xs per = true then leftM xs (foldM xs per.toNat) else 0), .b (foldOk xs per)]) | _ => .fail
def oc_impl_FoldedBy (xs : List Nat) (per : Int) (d : Nat) (as : List AV) : T AV := match d with | 11 => oc1_impl_isPeriodOf as | 15 => oc1_impl_folded as | 18 => oc1_impl_restOfFold as | 20 => oc1_impl_areFinite as | 24 => oc1_impl_IsFinite as | _ => .fail



theorem q_impl_FoldedBy {P : Program} {g_f : FuncId} {g_impl_isPeriodOf g_impl_folded g_impl_restOfFold g_impl_areFinite g_impl_IsFinite : FuncId} (h_ : Is_impl_FoldedBy P g_f g_impl_isPeriodOf g_impl_folded g_impl_restOfFold g_impl_areFinite g_impl_IsFinite) (xs : List Nat) (per : Int) (ht : T.ok (fun x_ => x_ = .tup [OS 0 .f32 (if foldOk xs per = true then foldM xs per.toNat else []), .f .f32 (if foldOk xs per = true then leftM xs (foldM xs per.toNat) else 0), .b (foldOk xs per)]) (
      T.ob ((VCall P) g_impl_isPeriodOf [AV.sl (Tag.par [0]) 0 (Cont.f FloatKind.f32 xs), AV.i IntKind.i64 per] (AV.b (seriesM xs && inM per 1 (↑(List.length xs) : Int))))
        (T.ite (!(seriesM xs && inM per 1 (↑(List.length xs) : Int))) (T.leaf (AV.tup [AV.sl (Tag.own 0) 0 (Cont.f FloatKind.f32 []), AV.f FloatKind.f32 0, AV.b false]))
          (T.ob ((VCall P) g_impl_folded [AV.sl (Tag.par [0]) 0 (Cont.f FloatKind.f32 xs), AV.i IntKind.i64 per] (AV.sl (Tag.own 0) 0 (Cont.f FloatKind.f32 (foldM xs (Int.toNat per)))))
            (T.ob ((VCall P) g_impl_restOfFold [AV.sl (Tag.par [0]) 0 (Cont.f FloatKind.f32 xs), AV.sl (Tag.par [1]) 0 (Cont.f FloatKind.f32 (foldM xs (Int.toNat per)))] (AV.f FloatKind.f32 (leftM xs (foldM xs (Int.toNat per)))))
              (T.ob ((VCall P) g_impl_areFinite [AV.sl (Tag.par [0]) 0 (Cont.f FloatKind.f32 (foldM xs (Int.toNat per)))] (AV.b (finAllM (foldM xs (Int.toNat per)))))
                (T.ite (!finAllM (foldM xs (Int.toNat per))) (T.leaf (AV.tup [AV.sl (Tag.own 0) 0 (Cont.f FloatKind.f32 []), AV.f FloatKind.f32 0, AV.b false]))
                  (T.ob ((VCall P) g_impl_IsFinite [AV.f FloatKind.f32 (leftM xs (foldM xs (Int.toNat per)))] (AV.b (finM (leftM xs (foldM xs (Int.toNat per))))))
                    (T.ite (!finM (leftM xs (foldM xs (Int.toNat per)))) (T.leaf (AV.tup [AV.sl (Tag.own 0) 0 (Cont.f FloatKind.f32 []), AV.f FloatKind.f32 0, AV.b false]))
                      (T.leaf (AV.tup [AV.sl (Tag.own 0) 0 (Cont.f FloatKind.f32 (foldM xs (Int.toNat per))), AV.f FloatKind.f32 (leftM xs (foldM xs (Int.toNat per))), AV.b true]))))))))))) :
    VCall P g_f [PS [0] .f32 xs, .i .i64 per] (.tup [OS 0 .f32 (if foldOk xs per = true then foldM xs per.toNat else []), .f .f32 (if foldOk xs per = true then leftM xs (foldM xs per.toNat) else 0), .b (foldOk xs per)]) := h_.call_of ps_impl_FoldedBy ⟨oc_impl_FoldedBy xs per, fun _ _ => none⟩ (by kernel_rfl) ht

-- END impl_FoldedBy

-- FN spec_FoldedBy
/-- spec.FoldedBy: slots 35, results [.t 4, .t 5, .t 6]; calls [10:g_spec_l02Series, 16:g_spec_l00In, 22:g_spec_l03Fold, 26:g_spec_l02Finite, 30:g_spec_l01Finite]; names [(a, 0), (period, 1), (a, 2), (period, 3), (means, 7), (left, 8)] -/
def ps_spec_FoldedBy : List Nat := [0, 1, 4, 5, 6, 7, 8, 18, 32]
def b_spec_FoldedBy (g_spec_l02Series g_spec_l00In g_spec_l03Fold g_spec_l02Finite g_spec_l01Finite : FuncId) : VCode :=
  (.seq
   (.region false [
    ⟨some 4, (.nilsl (.f .f32 [])), [], none⟩,
    ⟨some 5, .mv, [.k (.f .f32 0)], none⟩,
    ⟨some 6, .mv, [.k (.b false)], none⟩])
   (.seq
    (.seq
     (.region false [
      ⟨some 9, .mv, [.t 0], none⟩,
      ⟨some 10, (.call g_spec_l02Series), [.t 9], none⟩,
      ⟨some 11, .not, [.t 10], none⟩,
      ⟨some 12, .mv, [.t 11], none⟩,
      ⟨some 13, .mv, [.t 1], some (12, false)⟩,
      ⟨some 14, .mv, [.t 0], some (12, false)⟩,
      ⟨some 15, .len, [.t 14], some (12, false)⟩,
      ⟨some 16, (.call g_spec_l00In), [.t 13, .k (.i .i64 1), .t 15], some (12, false)⟩,
      ⟨some 17, .not, [.t 16], some (12, false)⟩,
      ⟨some 18, .pick, [.t 12, .k (.b true), .t 17], none⟩])
     (.cond (.t 18)
      (.seq
       (.region false [
        ⟨some 4, (.nilsl (.f .f32 [])), [], none⟩,
        ⟨some 5, .mv, [.k (.f .f32 0)], none⟩,
        ⟨some 6, .mv, [.k (.b false)], none⟩])
       .ret)
      .skip))
    (.seq
     (.region false [
      ⟨some 20, .mv, [.t 0], none⟩,
      ⟨some 21, .mv, [.t 1], none⟩,
      ⟨some 22, (.call g_spec_l03Fold), [.t 20, .t 21], none⟩,
      ⟨some 19, .mv, [.t 22], none⟩,
      ⟨some 23, (.extract 0), [.t 19], none⟩,
      ⟨some 24, (.extract 1), [.t 19], none⟩,
      ⟨some 7, .mv, [.t 23], none⟩,
      ⟨some 8, .mv, [.t 24], none⟩])
     (.seq
      (.seq
       (.region false [
        ⟨some 25, .mv, [.t 7], none⟩,
        ⟨some 26, (.call g_spec_l02Finite), [.t 25], none⟩,
        ⟨some 27, .not, [.t 26], none⟩,
        ⟨some 28, .mv, [.t 27], none⟩,
        ⟨some 29, .mv, [.t 8], some (28, false)⟩,
        ⟨some 30, (.call g_spec_l01Finite), [.t 29], some (28, false)⟩,
        ⟨some 31, .not, [.t 30], some (28, false)⟩,
        ⟨some 32, .pick, [.t 28, .k (.b true), .t 31], none⟩])
       (.cond (.t 32)
        (.seq
         (.region false [
          ⟨some 4, (.nilsl (.f .f32 [])), [], none⟩,
          ⟨some 5, .mv, [.k (.f .f32 0)], none⟩,
          ⟨some 6, .mv, [.k (.b false)], none⟩])
         .ret)
        .skip))
      (.seq
       (.region false [
        ⟨some 33, .mv, [.t 7], none⟩,
        ⟨some 34, .mv, [.t 8], none⟩,
        ⟨some 4, .mv, [.t 33], none⟩,
        ⟨some 5, .mv, [.t 34], none⟩,
        ⟨some 6, .mv, [.k (.b true)], none⟩])
       .ret)))))

abbrev Is_spec_FoldedBy (P : Program) (g_f : FuncId) (g_spec_l02Series g_spec_l00In g_spec_l03Fold g_spec_l02Finite g_spec_l01Finite : FuncId) : Prop := FnIs P g_f 35 [.t 4, .t 5, .t 6] (b_spec_FoldedBy g_spec_l02Series g_spec_l00In g_spec_l03Fold g_spec_l02Finite g_spec_l01Finite)

abbrev C_spec_FoldedBy (P : Program) (g_f : FuncId) : Prop := ∀ (xs : List Nat) (per : Int) (hx : xs.length ≤ maxLen), VCall P g_f [PS [0] .f32 xs, .i .i64 per] (.tup [OS 0 .f32 (if foldOk xs per = true then foldM xs per.toNat else []), .f .f32 (if foldOk xs per = true then leftM xs (foldM xs per.toNat) else 0), .b (foldOk xs per)])
def oc1_spec_FoldedBy (as : List AV) : T AV := match as with | [.sl _ _ (.f .f32 xs), .i .i64 per] => .leaf (.tup [OS 0 .f32 (if foldOk xs per = true then foldM xs per.toNat else []), .f .f32 (if foldOk xs per = true then leftM xs (foldM xs per.toNat) else 0), .b (foldOk xs per)]) | _ => .fail
def oc_spec_FoldedBy (xs : List Nat) (per : Int) (d : Nat) (as : List AV) : T AV := match d with | 10 => oc1_spec_l02Series as | 16 => oc1_spec_l00In as | 22 => oc1_spec_l03Fold as | 26 => oc1_spec_l02Finite as | 30 => oc1_spec_l01Finite as | _ => .fail



theorem q_spec_FoldedBy {P : Program} {g_f : FuncId} {g_spec_l02Series g_spec_l00In g_spec_l03Fold g_spec_l02Finite g_spec_l01Finite : FuncId} (h_ : Is_spec_FoldedBy P g_f g_spec_l02Series g_spec_l00In g_spec_l03Fold g_spec_l02Finite g_spec_l01Finite) (xs : List Nat) (per : Int) (ht : T.ok (fun x_ => x_ = .tup [OS 0 .f32 (if foldOk xs per = true then foldM xs per.toNat else []), .f .f32 (if foldOk xs per = true then leftM xs (foldM xs per.toNat) else 0), .b (foldOk xs per)]) (
      T.ob ((VCall P) g_spec_l02Series [AV.sl (Tag.par [0]) 0 (Cont.f FloatKind.f32 xs)] (AV.b (seriesM xs)))
        (T.ite (!seriesM xs) (T.leaf (AV.tup [AV.sl (Tag.own 0) 0 (Cont.f FloatKind.f32 []), AV.f FloatKind.f32 0, AV.b false]))
          (T.ob ((VCall P) g_spec_l00In [AV.i IntKind.i64 per, AV.i IntKind.i64 1, AV.i IntKind.i64 (↑(List.length xs) : Int)] (AV.b (inM per 1 (↑(List.length xs) : Int))))
            (T.ite (!inM per 1 (↑(List.length xs) : Int)) (T.leaf (AV.tup [AV.sl (Tag.own 0) 0 (Cont.f FloatKind.f32 []), AV.f FloatKind.f32 0, AV.b false]))
              (T.ob
                ((VCall P) g_spec_l03Fold [AV.sl (Tag.par [0]) 0 (Cont.f FloatKind.f32 xs), AV.i IntKind.i64 per]
                  (AV.tup [AV.sl (Tag.own 0) 0 (Cont.f FloatKind.f32 (foldM xs (Int.toNat per))), AV.f FloatKind.f32 (leftM xs (foldM xs (Int.toNat per)))]))
                (T.ob ((VCall P) g_spec_l02Finite [AV.sl (Tag.par [0]) 0 (Cont.f FloatKind.f32 (foldM xs (Int.toNat per)))] (AV.b (finAllM (foldM xs (Int.toNat per)))))
                  (T.ite (!finAllM (foldM xs (Int.toNat per))) (T.leaf (AV.tup [AV.sl (Tag.own 0) 0 (Cont.f FloatKind.f32 []), AV.f FloatKind.f32 0, AV.b false]))
                    (T.ob ((VCall P) g_spec_l01Finite [AV.f FloatKind.f32 (leftM xs (foldM xs (Int.toNat per)))] (AV.b (finM (leftM xs (foldM xs (Int.toNat per))))))
                      (T.ite (!finM (leftM xs (foldM xs (Int.toNat per)))) (T.leaf (AV.tup [AV.sl (Tag.own 0) 0 (Cont.f FloatKind.f32 []), AV.f FloatKind.f32 0, AV.b false]))
                        (T.leaf (AV.tup [AV.sl (Tag.own 0) 0 (Cont.f FloatKind.f32 (foldM xs (Int.toNat per))), AV.f FloatKind.f32 (leftM xs (foldM xs (Int.toNat per))), AV.b true])))))))))))) :
    VCall P g_f [PS [0] .f32 xs, .i .i64 per] (.tup [OS 0 .f32 (if foldOk xs per = true then foldM xs per.toNat else []), .f .f32 (if foldOk xs per = true then leftM xs (foldM xs per.toNat) else 0), .b (foldOk xs per)]) := h_.call_of ps_spec_FoldedBy ⟨oc_spec_FoldedBy xs per, fun _ _ => none⟩ (by kernel_rfl) ht

-- END spec_FoldedBy

def moreM (xs : List Nat) : Bool := xs.all fun x => finM x && fgt .f32 x 0



/-- the level and the factors, one number on -/
def tsStep (xs : List Nat) (per s i : Nat) (a : Nat × List Nat) : Nat × List Nat :=
  let l := fadd .f32 a.1 (fmul .f32 s (fsub .f32 (fdiv .f32 (xs.getD i 0) (a.2.getD (i % per) 0)) a.1))
  (l, a.2.set (i % per) (fadd .f32 (a.2.getD (i % per) 0) (fmul .f32 s (fsub .f32 (fdiv .f32 (xs.getD i 0) l) (a.2.getD (i % per) 0)))))
def tsAt (xs : List Nat) (per s j : Nat) : Nat × List Nat := accN (fun j a => tsStep xs per s (per + j) a) j (meanM (xs.take per), tab per fun k => fdiv .f32 (xs.getD k 0) (meanM (xs.take per)))
def tsEnd (xs : List Nat) (per s : Nat) : Nat × List Nat := tsAt xs per s (xs.length - per)
def tsOk (xs : List Nat) (per : Int) (s : Nat) : Bool := seriesM xs && (inM per 1 24 && (decide (per ≤ xs.length) && (moreM xs && (isShareM s && (finAllM (tsEnd xs per.toNat s).2 && finM (tsEnd xs per.toNat s).1)))))



theorem cnt_le (n p per : Nat) (hp : p < per) (hn : n ≤ 96) : cntM n p per ≤ 96 := by
  have := cnt_lt n p per 96 (by omega)
  apply Decidable.byContradiction; intro h'
  have := this.1 (by omega)
  have := Nat.le_mul_of_pos_right 96 (show 0 < per by omega)
  omega
theorem k_impl_folded {P : Program} {f g : FuncId} (h : Is_impl_folded P f g) (c1 : C_impl_mean P g) : C_impl_folded P f := by
  intro xs per hp hx
  obtain ⟨k, rfl⟩ : ∃ k : Nat, per = k := ⟨per.toNat, by omega⟩
  have inner : ∀ (p : Nat) (O : List Nat), p < k → Exec (VCall P) ps_impl_folded (.block 2 (.loop (b_impl_folded_L2 g))) (h_impl_folded_L2 xs k O p O [] p) .normal (h_impl_folded_L2 xs k O p O (tab (cntM xs.length p k) fun j => xs.getD (p + j * k) 0) (p + cntM xs.length p k * k : Nat)) := by
    intro p O hpk
    have hcl := cnt_le xs.length p k hpk hx
    refine for_up (e := .exit 2) (cntM xs.length p k) (fun j => h_impl_folded_L2 xs k O p O (tab j fun j => xs.getD (p + j * k) 0) (p + j * k : Nat)) (by simp only [Nat.zero_mul]; rfl) (fun j hj => ?_) ?_
    · have hl := (cnt_lt xs.length p k j (by omega)).1 hj
      have e : ((p + j * k : Nat) : Int) + k = ((p + (j + 1) * k : Nat) : Int) := by rw [Nat.succ_mul]; omega
      refine q_impl_folded_L2 _ _ _ _ _ _ _ ?_
      rw [e, wrap64_id (by omega) (by rw [← e]; omega)]
      generalize p + (j + 1) * k = i2
      have e3 : tab (j + 1) (fun j => xs.getD (p + j * k) 0) = tab j (fun j => xs.getD (p + j * k) 0) ++ [xs.getD (p + j * k) 0] := tab_succ _ _
      rw [e3]
      have hj2 : j < 97 := by omega
      generalize p + j * k = i1 at *
      repeat' (first | with_reducible refine T.ok_ob ?_ (fun _ => ?_) | with_reducible refine T.ok_ite (fun _ => ?_) (fun _ => ?_) | with_reducible refine T.ok_leaf ?_)
      all_goals (try simp only [decide_eq_true_eq, decide_eq_false_iff_not, Bool.not_eq_true', Bool.not_eq_false', Bool.not_eq_eq_eq_not, Bool.not_true, Bool.not_false, Int.toNat_natCast, tab_len, List.length_append, List.length_singleton, List.length_cons, List.length_nil, List.length_drop, List.length_take, getD_drop', getD_nat, reduceCtorEq] at *)
      all_goals (try simp (disch := omega) only [wrap64_id] at *)
      all_goals first | omega | (exfalso; omega) | trivial | contradiction | (exfalso; simp_all; done) | skip
      all_goals rfl
    · have hl : ¬ (p + cntM xs.length p k * k < xs.length) := fun h => absurd ((cnt_lt xs.length p k _ (by omega)).2 h) (by omega)
      refine q_impl_folded_L2 _ _ _ _ _ _ _ ?_
      generalize p + cntM xs.length p k * k = i1 at *
      repeat' (first | with_reducible refine T.ok_ob ?_ (fun _ => ?_) | with_reducible refine T.ok_ite (fun _ => ?_) (fun _ => ?_) | with_reducible refine T.ok_leaf ?_)
      all_goals (try simp only [decide_eq_true_eq, decide_eq_false_iff_not, Bool.not_eq_true', Bool.not_eq_false', Bool.not_eq_eq_eq_not, Bool.not_true, Bool.not_false, Int.toNat_natCast, tab_len, List.length_append, List.length_singleton, List.length_cons, List.length_nil, List.length_drop, List.length_take, getD_drop', getD_nat, reduceCtorEq] at *)
      all_goals (try simp (disch := omega) only [wrap64_id] at *)
      all_goals first | omega | (exfalso; omega) | trivial | contradiction | (exfalso; simp_all; done) | skip
      all_goals rfl
  refine q_impl_folded h xs _ ?_
  rw [Int.toNat_natCast]
  refine ⟨?_, fun _ => rfl⟩
  refine for_up (e := .exit 0) k (fun p => h_impl_folded_L0 xs k (tab p fun p => fdiv .f32 (fsumM xs k p (cntM xs.length p k)) (fofi .f32 (cntM xs.length p k))) p) rfl (fun p hpk => ?_) ?_
  · refine q_impl_folded_L0 _ _ _ _ ?_
    simp only [Int.toNat_natCast]
    have hcl := cnt_le xs.length p k hpk hx
    repeat' (first | with_reducible refine T.ok_ob ?_ (fun _ => ?_) | with_reducible refine T.ok_ite (fun _ => ?_) (fun _ => ?_) | with_reducible refine T.ok_leaf ?_)
    all_goals (try simp only [decide_eq_true_eq, decide_eq_false_iff_not, Bool.not_eq_true', Bool.not_eq_false', Bool.not_eq_eq_eq_not, Bool.not_true, Bool.not_false, Int.toNat_natCast, tab_len, List.length_append, List.length_singleton, List.length_cons, List.length_nil, List.length_drop, List.length_take, getD_drop', getD_nat, reduceCtorEq] at *)
    all_goals (try simp (disch := omega) only [wrap64_id] at *)
    all_goals first | omega | (exfalso; omega) | trivial | contradiction | (exfalso; simp_all; done) | skip
    · exact inner p _ hpk
    · exact c1 _ (by rw [tab_len, maxLen_eq]; omega)
    · rw [mean_tab, tab_succ]; rfl
  · refine q_impl_folded_L0 _ _ _ _ ?_
    repeat' (first | with_reducible refine T.ok_ob ?_ (fun _ => ?_) | with_reducible refine T.ok_ite (fun _ => ?_) (fun _ => ?_) | with_reducible refine T.ok_leaf ?_)
    all_goals (try simp only [decide_eq_true_eq, decide_eq_false_iff_not, Bool.not_eq_true', Bool.not_eq_false', Bool.not_eq_eq_eq_not, Bool.not_true, Bool.not_false, Int.toNat_natCast, tab_len, List.length_append, List.length_singleton, List.length_cons, List.length_nil, List.length_drop, List.length_take, getD_drop', getD_nat, reduceCtorEq] at *)
    all_goals (try simp (disch := omega) only [wrap64_id] at *)
    all_goals first | omega | (exfalso; omega) | trivial | contradiction | (exfalso; simp_all; done) | skip
    all_goals rfl
theorem replicate_tab {α : Type} (n : Nat) (x : α) : List.replicate n x = tab n fun _ => x := by
  simp [tab, List.map_const']
theorem tab_getI (n : Nat) (f : Nat → Int) (i : Nat) (h : i < n) : (tab n f).getD i 0 = f i := tab_get _ _ _ _ h
theorem k_spec_l03Fold {P : Program} {f : FuncId} (h : Is_spec_l03Fold P f) : C_spec_l03Fold P f := by
  intro xs per hp hx
  obtain ⟨k, rfl⟩ : ∃ k : Nat, per = k := ⟨per.toNat, by omega⟩
  refine q_spec_l03Fold h xs _ ?_
  rw [Int.toNat_natCast]
  refine ⟨⟨rfl, by omega, by omega⟩, fun _ => ⟨⟨rfl, by omega, by omega⟩, fun _ => ⟨?_, fun _ => ⟨?_, fun _ => ⟨?_, fun _ => rfl⟩⟩⟩⟩⟩
  · refine for_up (e := .exit 0) xs.length (fun i => h_spec_l03Fold_L0 xs k (tab k fun p => fsumM xs k p (cntM i p k)) (tab k fun p => (cntM i p k : Int)) i) ?_ (fun i hi => ?_) ?_
    · simp only [cnt_zero]
      rw [replicate_tab, replicate_tab]; rfl
    · refine q_spec_l03Fold_L0 _ _ _ _ _ ?_
      have hk : 0 < k := by omega
      have hr := Nat.mod_lt i hk
      have hc := cnt_le i (i % k) k hr (by omega)
      have hat := cnt_at i k
      rw [tmod_nat, Int.toNat_natCast]
      simp only [Nat.zero_add, Nat.sub_zero]
      rw [tab_getI _ _ _ hr, tab_get _ _ _ _ hr, tab_set, tab_set]
      have e1 : (tab k fun p => if p = i % k then fadd .f32 (fsumM xs k (i % k) (cntM i (i % k) k)) (xs.getD i 0) else fsumM xs k p (cntM i p k)) = tab k fun p => fsumM xs k p (cntM (i + 1) p k) := by
        refine tab_congr fun p hpk => ?_
        rw [cnt_next _ _ _ hpk]
        by_cases hh : p = i % k
        · subst hh
          rw [if_pos rfl, if_pos rfl]
          show _ = fadd .f32 (fsumM xs k (i % k) (cntM i (i % k) k)) (xs.getD (i % k + cntM i (i % k) k * k) 0)
          rw [hat]
        · rw [if_neg hh, if_neg (fun e => hh e.symm), Nat.add_zero]
      have e2 : (tab k fun p => if p = i % k then (cntM i (i % k) k : Int) + 1 else (cntM i p k : Int)) = tab k fun p => (cntM (i + 1) p k : Int) := by
        refine tab_congr fun p hpk => ?_
        rw [cnt_next _ _ _ hpk]
        by_cases hh : p = i % k
        · subst hh
          rw [if_pos rfl, if_pos rfl]; rfl
        · rw [if_neg hh, if_neg (fun e => hh e.symm), Nat.add_zero]
      rw [wrap64_id (n := (cntM i (i % k) k : Int) + 1) (by omega) (by omega), e2]
      simp only [Int.toNat_natCast]
      rw [e1]
      repeat' (first | with_reducible refine T.ok_ob ?_ (fun _ => ?_) | with_reducible refine T.ok_ite (fun _ => ?_) (fun _ => ?_) | with_reducible refine T.ok_leaf ?_)
      all_goals (try simp only [decide_eq_true_eq, decide_eq_false_iff_not, Bool.not_eq_true', Bool.not_eq_false', Bool.not_eq_eq_eq_not, Bool.not_true, Bool.not_false, Int.toNat_natCast, tab_len, List.length_append, List.length_singleton, List.length_cons, List.length_nil, List.length_drop, List.length_take, getD_drop', getD_nat, reduceCtorEq] at *)
      all_goals (try simp (disch := omega) only [wrap64_id] at *)
      all_goals first | omega | (exfalso; omega) | trivial | contradiction | (exfalso; simp_all; done) | skip
      all_goals rfl
    · refine q_spec_l03Fold_L0 _ _ _ _ _ ?_
      repeat' (first | with_reducible refine T.ok_ob ?_ (fun _ => ?_) | with_reducible refine T.ok_ite (fun _ => ?_) (fun _ => ?_) | with_reducible refine T.ok_leaf ?_)
      all_goals (try simp only [decide_eq_true_eq, decide_eq_false_iff_not, Bool.not_eq_true', Bool.not_eq_false', Bool.not_eq_eq_eq_not, Bool.not_true, Bool.not_false, Int.toNat_natCast, tab_len, List.length_append, List.length_singleton, List.length_cons, List.length_nil, List.length_drop, List.length_take, getD_drop', getD_nat, reduceCtorEq] at *)
      all_goals (try simp (disch := omega) only [wrap64_id] at *)
      all_goals first | omega | (exfalso; omega) | trivial | contradiction | (exfalso; simp_all; done) | skip
      all_goals rfl
  · refine for_up (e := .exit 2) k (fun i => h_spec_l03Fold_L2 xs k (tab k fun p => if p < i then fdiv .f32 (fsumM xs k p (cntM xs.length p k)) (fofi .f32 (cntM xs.length p k)) else fsumM xs k p (cntM xs.length p k)) (tab k fun p => (cntM xs.length p k : Int)) i) (by simp) (fun i hi => ?_) ?_
    · refine q_spec_l03Fold_L2 _ _ _ _ _ ?_
      simp only [Int.toNat_natCast, Nat.zero_add, Nat.sub_zero]
      rw [tab_get _ _ _ _ hi, tab_getI _ _ _ hi, tab_set, if_neg (Nat.lt_irrefl i)]
      have e1 : (tab k fun p => if p = i then fdiv .f32 (fsumM xs k i (cntM xs.length i k)) (fofi .f32 (cntM xs.length i k)) else if p < i then fdiv .f32 (fsumM xs k p (cntM xs.length p k)) (fofi .f32 (cntM xs.length p k)) else fsumM xs k p (cntM xs.length p k)) = tab k fun p => if p < i + 1 then fdiv .f32 (fsumM xs k p (cntM xs.length p k)) (fofi .f32 (cntM xs.length p k)) else fsumM xs k p (cntM xs.length p k) := by
        refine tab_congr fun p hpk => ?_
        by_cases hh : p = i
        · subst hh; rw [if_pos rfl, if_pos (by omega)]
        · rw [if_neg hh]
          by_cases h3 : p < i
          · rw [if_pos h3, if_pos (by omega)]
          · rw [if_neg h3, if_neg (by omega)]
      rw [e1]
      repeat' (first | with_reducible refine T.ok_ob ?_ (fun _ => ?_) | with_reducible refine T.ok_ite (fun _ => ?_) (fun _ => ?_) | with_reducible refine T.ok_leaf ?_)
      all_goals (try simp only [decide_eq_true_eq, decide_eq_false_iff_not, Bool.not_eq_true', Bool.not_eq_false', Bool.not_eq_eq_eq_not, Bool.not_true, Bool.not_false, Int.toNat_natCast, tab_len, List.length_append, List.length_singleton, List.length_cons, List.length_nil, List.length_drop, List.length_take, getD_drop', getD_nat, reduceCtorEq] at *)
      all_goals (try simp (disch := omega) only [wrap64_id] at *)
      all_goals first | omega | (exfalso; omega) | trivial | contradiction | (exfalso; simp_all; done) | skip
      all_goals rfl
    · have e1 : (tab k fun p => if p < k then fdiv .f32 (fsumM xs k p (cntM xs.length p k)) (fofi .f32 (cntM xs.length p k)) else fsumM xs k p (cntM xs.length p k)) = foldM xs k := by
        refine tab_congr fun p hpk => ?_
        rw [if_pos hpk]
      refine q_spec_l03Fold_L2 _ _ _ _ _ ?_
      rw [e1]
      simp only [Int.toNat_natCast]
      repeat' (first | with_reducible refine T.ok_ob ?_ (fun _ => ?_) | with_reducible refine T.ok_ite (fun _ => ?_) (fun _ => ?_) | with_reducible refine T.ok_leaf ?_)
      all_goals (try simp only [decide_eq_true_eq, decide_eq_false_iff_not, Bool.not_eq_true', Bool.not_eq_false', Bool.not_eq_eq_eq_not, Bool.not_true, Bool.not_false, Int.toNat_natCast, tab_len, List.length_append, List.length_singleton, List.length_cons, List.length_nil, List.length_drop, List.length_take, getD_drop', getD_nat, reduceCtorEq] at *)
      all_goals (try simp (disch := omega) only [wrap64_id] at *)
      all_goals first | omega | (exfalso; omega) | trivial | contradiction | (exfalso; simp_all; done) | skip
      all_goals rfl
  · have e : leftM xs (foldM xs k) = accN (fun i s => fadd .f32 s (fmul .f32 (fsub .f32 (xs.getD i 0) ((foldM xs k).getD (i % k) 0)) (fsub .f32 (xs.getD i 0) ((foldM xs k).getD (i % k) 0)))) xs.length 0 := by
      unfold leftM; rw [fold_len]
    rw [e]
    refine for_up (e := .exit 4) xs.length (fun i => h_spec_l03Fold_L4 xs k (accN (fun i s => fadd .f32 s (fmul .f32 (fsub .f32 (xs.getD i 0) ((foldM xs k).getD (i % k) 0)) (fsub .f32 (xs.getD i 0) ((foldM xs k).getD (i % k) 0)))) i 0) i) rfl (fun i hi => ?_) ?_
    · refine q_spec_l03Fold_L4 _ _ _ _ ?_
      have := Nat.mod_lt i (show k > 0 by omega)
      have := fold_len xs k
      rw [tmod_nat]
      simp only [Int.toNat_natCast]
      repeat' (first | with_reducible refine T.ok_ob ?_ (fun _ => ?_) | with_reducible refine T.ok_ite (fun _ => ?_) (fun _ => ?_) | with_reducible refine T.ok_leaf ?_)
      all_goals (try simp only [decide_eq_true_eq, decide_eq_false_iff_not, Bool.not_eq_true', Bool.not_eq_false', Bool.not_eq_eq_eq_not, Bool.not_true, Bool.not_false, Int.toNat_natCast, tab_len, List.length_append, List.length_singleton, List.length_cons, List.length_nil, List.length_drop, List.length_take, getD_drop', getD_nat, reduceCtorEq] at *)
      all_goals (try simp (disch := omega) only [wrap64_id] at *)
      all_goals first | omega | (exfalso; omega) | trivial | contradiction | (exfalso; simp_all; done) | skip
      all_goals rfl
    · refine q_spec_l03Fold_L4 _ _ _ _ ?_
      simp only [Int.toNat_natCast]
      repeat' (first | with_reducible refine T.ok_ob ?_ (fun _ => ?_) | with_reducible refine T.ok_ite (fun _ => ?_) (fun _ => ?_) | with_reducible refine T.ok_leaf ?_)
      all_goals (try simp only [decide_eq_true_eq, decide_eq_false_iff_not, Bool.not_eq_true', Bool.not_eq_false', Bool.not_eq_eq_eq_not, Bool.not_true, Bool.not_false, Int.toNat_natCast, tab_len, List.length_append, List.length_singleton, List.length_cons, List.length_nil, List.length_drop, List.length_take, getD_drop', getD_nat, reduceCtorEq] at *)
      all_goals (try simp (disch := omega) only [wrap64_id] at *)
      all_goals first | omega | (exfalso; omega) | trivial | contradiction | (exfalso; simp_all; done) | skip
      all_goals rfl
theorem k_impl_restOfFold {P : Program} {f : FuncId} (h : Is_impl_restOfFold P f) : C_impl_restOfFold P f := by
  intro xs ms hm hx
  refine q_impl_restOfFold h xs ms ?_
  refine ⟨?_, fun _ => rfl⟩
  refine for_up (e := .exit 0) xs.length (fun i => h_impl_restOfFold_L0 xs ms (accN (fun i s => fadd .f32 s (fmul .f32 (fsub .f32 (xs.getD i 0) (ms.getD (i % ms.length) 0)) (fsub .f32 (xs.getD i 0) (ms.getD (i % ms.length) 0)))) i 0) i) rfl (fun i hi => ?_) ?_
  · refine q_impl_restOfFold_L0 _ _ _ _ ?_
    have := Nat.mod_lt i (show ms.length > 0 by omega)
    rw [tmod_nat]
    repeat' (first | with_reducible refine T.ok_ob ?_ (fun _ => ?_) | with_reducible refine T.ok_ite (fun _ => ?_) (fun _ => ?_) | with_reducible refine T.ok_leaf ?_)
    all_goals (try simp only [decide_eq_true_eq, decide_eq_false_iff_not, Bool.not_eq_true', Bool.not_eq_false', Bool.not_eq_eq_eq_not, Bool.not_true, Bool.not_false, Int.toNat_natCast, tab_len, List.length_append, List.length_singleton, List.length_cons, List.length_nil, List.length_drop, List.length_take, getD_drop', getD_nat, reduceCtorEq] at *)
    all_goals (try simp (disch := omega) only [wrap64_id] at *)
    all_goals first | omega | (exfalso; omega) | trivial | contradiction | (exfalso; simp_all; done) | skip
    all_goals rfl
  · refine q_impl_restOfFold_L0 _ _ _ _ ?_
    repeat' (first | with_reducible refine T.ok_ob ?_ (fun _ => ?_) | with_reducible refine T.ok_ite (fun _ => ?_) (fun _ => ?_) | with_reducible refine T.ok_leaf ?_)
    all_goals (try simp only [decide_eq_true_eq, decide_eq_false_iff_not, Bool.not_eq_true', Bool.not_eq_false', Bool.not_eq_eq_eq_not, Bool.not_true, Bool.not_false, Int.toNat_natCast, tab_len, List.length_append, List.length_singleton, List.length_cons, List.length_nil, List.length_drop, List.length_take, getD_drop', getD_nat, reduceCtorEq] at *)
    all_goals (try simp (disch := omega) only [wrap64_id] at *)
    all_goals first | omega | (exfalso; omega) | trivial | contradiction | (exfalso; simp_all; done) | skip
    all_goals rfl
  repeat' (first | with_reducible refine T.ok_ob ?_ (fun _ => ?_) | with_reducible refine T.ok_ite (fun _ => ?_) (fun _ => ?_) | with_reducible refine T.ok_leaf ?_)
  all_goals first | with_reducible rfl | with_reducible assumption | contradiction | exact fconvOk_32_64 _ | assumption | exact rfl | (simp_all []; done) | (simp_all [T.ok]; omega)

theorem k_impl_isPeriodOf {P : Program} {f g_impl_IsSeries g_impl_within : FuncId} (h : Is_impl_isPeriodOf P f g_impl_IsSeries g_impl_within) (c1 : C_impl_IsSeries P g_impl_IsSeries) (c2 : C_impl_within P g_impl_within) : C_impl_isPeriodOf P f := by
  intro xs per hx
  refine q_impl_isPeriodOf h xs per ?_
  repeat' (first | with_reducible refine T.ok_ob ?_ (fun _ => ?_) | with_reducible refine T.ok_ite (fun _ => ?_) (fun _ => ?_) | with_reducible refine T.ok_leaf ?_)
  all_goals first | with_reducible rfl | with_reducible assumption | ((with_reducible refine c1 _ ?_) <;> (first | assumption | omega | with_reducible rfl | (simp [maxLen_eq]; done) | (simp [maxLen_eq]; omega))) | with_reducible exact c2 _ _ _ | contradiction | exact fconvOk_32_64 _ | assumption | exact rfl | (simp_all []; done) | (simp_all [T.ok]; omega)

theorem in_1 {per : Int} {n : Nat} (h : inM per 1 n = true) : 1 ≤ per ∧ per ≤ n := by simpa [inM] using h
theorem k_impl_FoldedBy {P : Program} {f g1 g2 g3 g4 g5 : FuncId} (h : Is_impl_FoldedBy P f g1 g2 g3 g4 g5) (c1 : C_impl_isPeriodOf P g1) (c2 : C_impl_folded P g2) (c3 : C_impl_restOfFold P g3) (c4 : C_impl_areFinite P g4) (c5 : C_impl_IsFinite P g5) : C_impl_FoldedBy P f := by
  intro xs per hx
  refine q_impl_FoldedBy h xs per ⟨c1 _ _ hx, fun _ => ⟨fun h0 => ?_, fun h0 => ?_⟩⟩
  · have : foldOk xs per = false := by
      unfold foldOk
      cases hs : seriesM xs <;> cases hi : inM per 1 xs.length <;> simp_all
    simp [T.ok, this]
  · simp at h0
    have hl := series_len h0.1
    have hi := in_1 h0.2
    have fl := fold_len xs per.toNat
    refine ⟨c2 _ _ hi hl.2, fun _ => ⟨c3 _ _ (by rw [fl]; omega) hl.2, fun _ => ?_⟩⟩
    repeat' (first | with_reducible refine T.ok_ob ?_ (fun _ => ?_) | with_reducible refine T.ok_ite (fun _ => ?_) (fun _ => ?_) | with_reducible refine T.ok_leaf ?_)
    all_goals first | with_reducible rfl | exact c4 _ (by rw [fl, maxLen_eq]; omega) | with_reducible exact c5 _ | (simp_all [foldOk]; done)
theorem k_spec_FoldedBy {P : Program} {f g1 g2 g3 g4 g5 : FuncId} (h : Is_spec_FoldedBy P f g1 g2 g3 g4 g5) (c1 : C_spec_l02Series P g1) (c2 : C_spec_l00In P g2) (c3 : C_spec_l03Fold P g3) (c4 : C_spec_l02Finite P g4) (c5 : C_spec_l01Finite P g5) : C_spec_FoldedBy P f := by
  intro xs per hx
  refine q_spec_FoldedBy h xs per ⟨c1 _ hx, fun _ => ⟨fun h0 => ?_, fun h0 => ⟨c2 _ _ _, fun _ => ⟨fun h1 => ?_, fun h1 => ?_⟩⟩⟩⟩
  · simp at h0; simp [T.ok, foldOk, h0]
  · simp at h1; simp [T.ok, foldOk, h1]
  · simp at h0 h1
    have hl := series_len h0
    have hi := in_1 h1
    have fl := fold_len xs per.toNat
    refine ⟨c3 _ _ hi hl.2, fun _ => ?_⟩
    repeat' (first | with_reducible refine T.ok_ob ?_ (fun _ => ?_) | with_reducible refine T.ok_ite (fun _ => ?_) (fun _ => ?_) | with_reducible refine T.ok_leaf ?_)
    all_goals first | with_reducible rfl | exact c4 _ (by rw [fl, maxLen_eq]; omega) | with_reducible exact c5 _ | (simp_all [foldOk]; done)

theorem per_cond (xs : List Nat) (per : Int) : (seriesM xs && inM per 1 xs.length && decide (per ≤ 24)) = (seriesM xs && (inM per 1 24 && decide (per ≤ xs.length))) := by
  rw [Bool.eq_iff_iff]
  cases seriesM xs <;> simp [inM]
  omega
theorem getD_take {α : Type} (xs : List α) (k i : Nat) (d : α) (h : i < k) : (xs.take k).getD i d = xs.getD i d := by
  simp [List.getD, h]
theorem ts_len (xs : List Nat) (k s : Nat) : ∀ j, (tsAt xs k s j).2.length = k
  | 0 => tab_len _ _
  | j + 1 => by
    have := ts_len xs k s j
    show (tsStep xs k s (k + j) (tsAt xs k s j)).2.length = k
    simp only [tsStep, List.length_set]; exact this
theorem all_allN {p : Nat → Bool} (xs : List Nat) : xs.all p = allN xs.length fun i => p (xs.getD i 0) := by
  have := any_allN (p := fun x => !p x) xs
  rw [← List.not_all_eq_any_not] at this
  simpa using this
end Go.Proofs.LV
