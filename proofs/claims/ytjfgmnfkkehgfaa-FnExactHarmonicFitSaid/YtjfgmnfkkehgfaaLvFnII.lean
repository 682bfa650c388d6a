/- Columns of lags. -/
import Derived.Test.YtjfgmnfkkehgfaaLvFnHH
import Derived.Test.YtjfgmnfkkehgfaaLvFnOX
namespace Go.Proofs.LV
open Go
set_option linter.unusedVariables false
set_option linter.unusedSimpArgs false

abbrev one32 : Nat := 1065353216





-- FN spec_l03Same
/-- spec.l03Same: slots 18, results [.t 4]; calls []; names [(n, 0), (x, 1), (n, 2), (x, 3), (out, 5), (i, 6)] -/
def ps_spec_l03Same : List Nat := [0, 1, 4, 5, 6, 10]
def lv_spec_l03Same_L0 : List Nat := [0, 1, 5, 6]
def b_spec_l03Same_L0 : VCode :=
  (.seq
   (.seq
    (.region false [
     ⟨some 8, .mv, [.t 6], none⟩,
     ⟨some 9, .mv, [.t 0], none⟩,
     ⟨some 10, (.bin .lss), [.t 8, .t 9], none⟩])
    (.cond (.t 10)
     .skip
     (.exit 0)))
   (.seq
    (.block 1
     (.region false [
      ⟨some 13, .mv, [.t 5], none⟩,
      ⟨some 14, .mv, [.t 1], none⟩,
      ⟨some 15, (.lit true (.f .f32 [])), [.t 14], none⟩,
      ⟨some 16, .app, [.t 13, .t 15], none⟩,
      ⟨some 5, .mv, [.t 16], none⟩]))
    (.region false [
     ⟨some 11, .mv, [.t 6], none⟩,
     ⟨some 12, (.bin .add), [.t 11, .k (.i .i64 1)], none⟩,
     ⟨some 6, .mv, [.t 12], none⟩])))

def b_spec_l03Same : VCode :=
  (.seq
   (.region false [
    ⟨some 4, (.nilsl (.f .f32 [])), [], none⟩])
   (.seq
    (.region false [
     ⟨some 7, (.lit true (.f .f32 [])), [], none⟩,
     ⟨some 5, .mv, [.t 7], none⟩])
    (.seq
     (.seq
      (.region false [
       ⟨some 6, .mv, [.k (.i .i64 0)], none⟩])
      (.block 0 (.loop b_spec_l03Same_L0)))
     (.seq
      (.region false [
       ⟨some 17, .mv, [.t 5], none⟩,
       ⟨some 4, .mv, [.t 17], none⟩])
      .ret))))

abbrev Is_spec_l03Same (P : Program) (g_f : FuncId) : Prop := FnIs P g_f 18 [.t 4] (b_spec_l03Same)

abbrev C_spec_l03Same (P : Program) (g_f : FuncId) : Prop := ∀ (n : Nat) (x : Nat) (hn : 1 ≤ n ∧ n ≤ 96), VCall P g_f [.i .i64 n, .f .f32 x] (OS 0 .f32 (List.replicate n x))
def h_spec_l03Same_L0 (n : Nat) (x : Nat) (out : List Nat) (i : Int) : Env := [AV.i IntKind.i64 (↑n : Int), AV.f FloatKind.f32 x, .any, .any, .any, .sl (Tag.own 56) 0 (.f FloatKind.f32 out), .i IntKind.i64 i] ++ anys 11

theorem q_spec_l03Same_L0 {VC : FuncId → List AV → AV → Prop} (n : Nat) (x : Nat) (out : List Nat) (i : Int) {e_ : Ex} {σ_ : Env} (ht : T.ok (fun x_ => x_ = (e_, σ_)) (
      T.ite (decide (i < (↑n : Int))) (T.ob (List.length out + List.length [x] ≤ 4294967296) (T.leaf (Ex.normal, h_spec_l03Same_L0 n x (out ++ [x]) (IntKind.wrap IntKind.i64 (i + 1)))))
        (T.leaf (Ex.exit 0, h_spec_l03Same_L0 n x out i)))) :
    Exec VC ps_spec_l03Same (b_spec_l03Same_L0) (h_spec_l03Same_L0 n x out i) e_ σ_ := evL_of (lv := lv_spec_l03Same_L0) (rs := [4]) (O := ⟨fun _ _ => .fail, fun _ _ => none⟩) (by kernel_rfl) ht

theorem q_spec_l03Same {P : Program} {g_f : FuncId} (h_ : Is_spec_l03Same P g_f) (n : Nat) (x : Nat) (ht : T.ok (fun x_ => x_ = OS 0 .f32 (List.replicate n x)) (
      T.ob (Exec (VCall P) ps_spec_l03Same (VCode.block 0 (VCode.loop b_spec_l03Same_L0)) (h_spec_l03Same_L0 n x [] 0) Ex.normal (h_spec_l03Same_L0 n x (List.replicate n x) (↑n : Int)))
        (T.leaf (AV.sl (Tag.own 0) 0 (Cont.f FloatKind.f32 (List.replicate n x)))))) :
    VCall P g_f [.i .i64 n, .f .f32 x] (OS 0 .f32 (List.replicate n x)) := h_.call_of ps_spec_l03Same ⟨fun _ _ => .fail, fun id σ => match id with | 0 => some (lv_spec_l03Same_L0, .leaf (.normal, h_spec_l03Same_L0 n x (List.replicate n x) n)) | _ => none⟩ (by kernel_rfl) ht

-- END spec_l03Same

theorem ibits_low (n : Nat) (h : n ≤ 96) : ibits .and .u64 (n : Int) 4294967295 = n := by
  have : ∀ n : Fin 97, ibits .and .u64 ((n : Nat) : Int) 4294967295 = ((n : Nat) : Int) := by decide +kernel
  exact this ⟨n, by omega⟩
theorem mul64_low (n : Nat) (h : n ≤ 96) : (AV.tup [.i .u64 (IntKind.wrap .u64 (IntKind.wrap .u64 (IntKind.wrap .u64 (0 * Int.fdiv (n : Int) 4294967296) + Int.fdiv (IntKind.wrap .u64 (IntKind.wrap .u64 (0 * ibits .and .u64 (n : Int) 4294967295) + Int.fdiv (IntKind.wrap .u64 (1 * ibits .and .u64 (n : Int) 4294967295)) 4294967296)) 4294967296) + Int.fdiv (IntKind.wrap .u64 (ibits .and .u64 (IntKind.wrap .u64 (IntKind.wrap .u64 (0 * ibits .and .u64 (n : Int) 4294967295) + Int.fdiv (IntKind.wrap .u64 (1 * ibits .and .u64 (n : Int) 4294967295)) 4294967296)) 4294967295 + IntKind.wrap .u64 (1 * Int.fdiv (n : Int) 4294967296))) 4294967296)), .i .u64 (IntKind.wrap .u64 (1 * (n : Int)))] : AV) = .tup [.i .u64 0, .i .u64 n] := by
  have a : ∀ n : Fin 97, (IntKind.wrap .u64 (IntKind.wrap .u64 (IntKind.wrap .u64 (0 * Int.fdiv ((n : Nat) : Int) 4294967296) + Int.fdiv (IntKind.wrap .u64 (IntKind.wrap .u64 (0 * ibits .and .u64 ((n : Nat) : Int) 4294967295) + Int.fdiv (IntKind.wrap .u64 (1 * ibits .and .u64 ((n : Nat) : Int) 4294967295)) 4294967296)) 4294967296) + Int.fdiv (IntKind.wrap .u64 (ibits .and .u64 (IntKind.wrap .u64 (IntKind.wrap .u64 (0 * ibits .and .u64 ((n : Nat) : Int) 4294967295) + Int.fdiv (IntKind.wrap .u64 (1 * ibits .and .u64 ((n : Nat) : Int) 4294967295)) 4294967296)) 4294967295 + IntKind.wrap .u64 (1 * Int.fdiv ((n : Nat) : Int) 4294967296))) 4294967296)) = 0 ∧ IntKind.wrap .u64 (1 * ((n : Nat) : Int)) = ((n : Nat) : Int) := by decide +kernel
  have := a ⟨n, by omega⟩
  rw [this.1, this.2]

def repS (x n k : Nat) : List Nat := List.replicate k x ++ List.replicate (n - k) 0
theorem repS_len {x n k : Nat} (h : k ≤ n) : (repS x n k).length = n := by simp [repS]; omega
theorem repS_splice {x n k j : Nat} (h : k + j ≤ n) : splice (repS x n k) k (List.replicate j x) = repS x n (k + j) := by
  have e1 : (repS x n k).take k = List.replicate k x := by
    unfold repS; exact List.take_left' (by simp)
  have e2 : (repS x n k).drop (k + j) = List.replicate (n - (k + j)) 0 := by
    unfold repS
    rw [List.drop_append, List.length_replicate, List.drop_of_length_le (by simp), List.nil_append, List.drop_replicate]
    congr 1; omega
  unfold splice
  rw [List.length_replicate, e1, e2, repS_len (by omega), List.replicate_append_replicate]
  exact List.take_of_length_le (by simp; omega)
theorem pow_steps : ∀ n : Fin 97, 1 ≤ (n : Nat) → ∃ m, m < 8 ∧ (n : Nat) ≤ 2 ^ m ∧ ∀ i, i < m → 2 ^ i < (n : Nat) := by decide +kernel

theorem k_spec_l03Same {P : Program} {f : FuncId} (h : Is_spec_l03Same P f) : C_spec_l03Same P f := by
  intro n x hn
  refine q_spec_l03Same h n x ⟨?_, fun _ => rfl⟩
  refine for_up (e := .exit 0) n (fun i => h_spec_l03Same_L0 n x (List.replicate i x) i) rfl (fun i hi => ?_) ?_
  · refine q_spec_l03Same_L0 _ _ _ _ ⟨fun _ => ⟨by simp; omega, fun _ => ?_⟩, fun h => absurd (of_decide_eq_false h) (by omega)⟩
    show _ = _
    rw [wrap64_id (by omega) (by omega), ← List.replicate_succ']; rfl
  · exact q_spec_l03Same_L0 _ _ _ _ ⟨fun h => absurd h (by simp), fun _ => rfl⟩

/-- the numbers l ahead of the last ones -/
def lagRow (a : List Nat) (n l : Nat) : List Nat := (a.drop (n - l)).take (a.length - n)
/-- the columns of the first l lags -/
def lagM (a : List Nat) (n l : Nat) : LL := List.replicate (a.length - n) one32 :: tab l fun i => lagRow a n (i + 1)
def lagOk (a : List Nat) (n : Int) : Bool := seriesM a && (inM n 1 5 && decide (n < a.length))




theorem lagRow_len {a : List Nat} {n : Nat} (l : Nat) (h : n < a.length) : (lagRow a n l).length = a.length - n := by
  unfold lagRow; simp; omega
theorem lagM_len (a : List Nat) (n l : Nat) : (lagM a n l).length = l + 1 := by simp [lagM, tab_len]
theorem lagM_succ (a : List Nat) (n l : Nat) : lagM a n (l + 1) = lagM a n l ++ [lagRow a n (l + 1)] := by
  unfold lagM; rw [tab_succ]; rfl
theorem lag_last (a : List Nat) (n : Nat) : (a.drop n).take (a.length - n) = a.drop n := List.take_of_length_le (by simp)

end Go.Proofs.LV
