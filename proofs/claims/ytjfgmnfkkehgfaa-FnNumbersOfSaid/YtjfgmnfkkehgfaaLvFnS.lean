/- Sorting that keeps equals as they were: the library's functions at numbers of 32 bits. -/
import Derived.Test.YtjfgmnfkkehgfaaLvFnCX
import Derived.Test.YtjfgmnfkkehgfaaLvSortX
namespace Go.Proofs.LV
open Go
set_option linter.unusedVariables false
set_option linter.unusedSimpArgs false

/-- the order of numbers -/
def KS : Nat → Int := srung .f32
def okM (xs : List Nat) : Prop := ∀ i, nanB .f32 (xs.getD i 0) = false
theorem sign_lt {x y : Nat} (hx : nanB .f32 x = false) (hy : nanB .f32 y = false) : decide (signM x y < 0) = decide (KS x < KS y) := by
  unfold signM KS
  rw [flt_eq, fgt_eq, hx, hy]
  by_cases h : srung .f32 x < srung .f32 y
  · simp [h]
  · by_cases h2 : srung .f32 y < srung .f32 x <;> simp [h, h2]
theorem ok_rel {a b : Nat} {l m : List Nat} (h : Rel KS a b l m) (ho : okM l) : okM m := by
  intro i
  by_cases hi : a ≤ i ∧ i < b
  · exact h.all (fun x => nanB .f32 x = false) (fun i _ _ => ho i) i hi.1 hi.2
  · rw [h.out i (by omega)]; exact ho i
theorem nan0S : nanB .f32 0 = false := by decide
theorem ok_swp {l : List Nat} {i j : Nat} (h : okM l) (hi : i < l.length) (hj : j < l.length) : okM (swp l i j) := by
  intro k
  rw [swp_get _ _ _ _ hi hj]
  repeat' split
  all_goals exact h _
theorem ok_rot {l : List Nat} {s m e : Nat} (h : okM l) : okM (rotM l s m e) := by
  intro k
  rw [rotM, tabG]
  repeat' split
  all_goals first | exact h _ | (exact nan0S)

def rotF : Nat → Nat → Nat → Nat → List Nat → List Nat × Nat
  | 0, m, i, j, l => (l, i)
  | f + 1, m, i, j, l => if i = j then (l, i) else if j < i then rotF f m (i - j) j (swpR l (m - i) m j) else rotF f m i (j - i) (swpR l (m - i) (m + j - i) i)
/-- where the first half's one number goes -/
def bs1 (xs : List Nat) (a m b : Int) : Nat := bsM (fun h => decide (KS (xs.getD a.toNat 0) ≤ KS (xs.getD h 0))) (b.toNat - m.toNat) m.toNat b.toNat
/-- where the second half's one number goes -/
def bs2 (xs : List Nat) (a m b : Int) : Nat := bsM (fun h => decide (KS (xs.getD m.toNat 0) < KS (xs.getD h 0))) (m.toNat - a.toNat) a.toNat m.toNat
/-- where the first half is cut -/
def bs3 (xs : List Nat) (a m b : Int) : Nat :=
  let mid := (a.toNat + b.toNat) / 2
  let n := mid + m.toNat
  let s := if mid < m.toNat then n - b.toNat else a.toNat
  let r := if mid < m.toNat then mid else m.toNat
  bsM (fun c => decide (KS (xs.getD (n - 1 - c) 0) < KS (xs.getD c 0))) (r - s) s r

open Go.IntKind (wrap)
-- FN slices_insertionSortCmpFunc_float32_
def ps_slices_insertionSortCmpFunc_float32_ : List Nat := [0, 1, 2, 3, 8, 9, 14, 34]
def lv_slices_insertionSortCmpFunc_float32__L0 : List Nat := [0, 1, 2, 3, 8]
def lv_slices_insertionSortCmpFunc_float32__L2 : List Nat := [0, 1, 2, 3, 8, 9]
def b_slices_insertionSortCmpFunc_float32__L2 : VCode :=
 (.seq
 (.seq
 (.region true [
 ⟨some 18, .mv, [.t 9], none⟩,
 ⟨some 19, .mv, [.t 1], none⟩,
 ⟨some 20, (.bin .gtr), [.t 18, .t 19], none⟩,
 ⟨some 21, .mv, [.t 20], none⟩,
 ⟨some 22, .mv, [.t 3], some (21, true)⟩,
 ⟨some 23, .mv, [.t 0], some (21, true)⟩,
 ⟨some 24, .mv, [.t 9], some (21, true)⟩,
 ⟨some 25, .iaddr, [.t 23, .t 24], some (21, true)⟩,
 ⟨some 26, .load, [.t 25], some (21, true)⟩,
 ⟨some 27, .mv, [.t 0], some (21, true)⟩,
 ⟨some 28, .mv, [.t 9], some (21, true)⟩,
 ⟨some 29, (.bin .sub), [.t 28, .k (.i .i64 1)], some (21, true)⟩,
 ⟨some 30, .iaddr, [.t 27, .t 29], some (21, true)⟩,
 ⟨some 31, .load, [.t 30], some (21, true)⟩,
 ⟨some 32, .callv, [.t 22, .t 26, .t 31], some (21, true)⟩,
 ⟨some 33, (.bin .lss), [.t 32, .k (.i .i64 0)], some (21, true)⟩,
 ⟨some 34, .pick, [.t 21, .t 33, .k (.b false)], none⟩])
 (.cond (.t 34)
 .skip
 (.exit 2)))
 (.seq
 (.block 3
 (.region true [
 ⟨some 37, .mv, [.t 0], none⟩,
 ⟨some 38, .mv, [.t 9], none⟩,
 ⟨some 39, .mv, [.t 0], none⟩,
 ⟨some 40, .mv, [.t 9], none⟩,
 ⟨some 41, (.bin .sub), [.t 40, .k (.i .i64 1)], none⟩,
 ⟨some 42, .mv, [.t 0], none⟩,
 ⟨some 43, .mv, [.t 9], none⟩,
 ⟨some 44, (.bin .sub), [.t 43, .k (.i .i64 1)], none⟩,
 ⟨some 45, .iaddr, [.t 42, .t 44], none⟩,
 ⟨some 46, .load, [.t 45], none⟩,
 ⟨some 47, .mv, [.t 0], none⟩,
 ⟨some 48, .mv, [.t 9], none⟩,
 ⟨some 49, .iaddr, [.t 47, .t 48], none⟩,
 ⟨some 50, .load, [.t 49], none⟩,
 ⟨some 51, .iaddr, [.t 37, .t 38], none⟩,
 ⟨none, .store, [.t 51, .t 46], none⟩,
 ⟨some 52, .iaddr, [.t 39, .t 41], none⟩,
 ⟨none, .store, [.t 52, .t 50], none⟩]))
 (.region false [
 ⟨some 35, .mv, [.t 9], none⟩,
 ⟨some 36, (.bin .sub), [.t 35, .k (.i .i64 1)], none⟩,
 ⟨some 9, .mv, [.t 36], none⟩])))

def b_slices_insertionSortCmpFunc_float32__L0 : VCode :=
 (.seq
 (.seq
 (.region false [
 ⟨some 12, .mv, [.t 8], none⟩,
 ⟨some 13, .mv, [.t 2], none⟩,
 ⟨some 14, (.bin .lss), [.t 12, .t 13], none⟩])
 (.cond (.t 14)
 .skip
 (.exit 0)))
 (.seq
 (.block 1
 (.seq
 (.region false [
 ⟨some 17, .mv, [.t 8], none⟩,
 ⟨some 9, .mv, [.t 17], none⟩])
 (.block 2 (.loop b_slices_insertionSortCmpFunc_float32__L2))))
 (.region false [
 ⟨some 15, .mv, [.t 8], none⟩,
 ⟨some 16, (.bin .add), [.t 15, .k (.i .i64 1)], none⟩,
 ⟨some 8, .mv, [.t 16], none⟩])))

def b_slices_insertionSortCmpFunc_float32_ : VCode :=
 (.seq
 (.region false [
 ⟨some 10, .mv, [.t 1], none⟩,
 ⟨some 11, (.bin .add), [.t 10, .k (.i .i64 1)], none⟩,
 ⟨some 8, .mv, [.t 11], none⟩])
 (.block 0 (.loop b_slices_insertionSortCmpFunc_float32__L0)))

abbrev Is_slices_insertionSortCmpFunc_float32_ (P : Program) (g_f : FuncId) : Prop := FnIs P g_f 53 [] (b_slices_insertionSortCmpFunc_float32_)

abbrev C_slices_insertionSortCmpFunc_float32_ (P : Program) (g_f : FuncId) : Prop := ∀ (xs : List Nat) (a : Int) (b : Int) (F : FuncId) (hab : 0 ≤ a ∧ a ≤ b ∧ b ≤ xs.length) (hN : okM xs) (hF : ∀ x y, VCall P F [.f .f32 x, .f .f32 y] (.i .i64 (signM x y))) (hx : xs.length ≤ 5000), VCall P g_f [OS HI .f32 xs, .i .i64 a, .i .i64 b, .fn F []] ((AV.M (.tup []) [OS HI .f32 (srt KS xs a.toNat b.toNat), .i .i64 a, .i .i64 b, .fn F []]))
def oc1_slices_insertionSortCmpFunc_float32_ (as : List AV) : T AV := match as with | [.sl _ _ (.f .f32 xs), .i .i64 a, .i .i64 b, .fn F []] => .leaf ((AV.M (.tup []) [OS HI .f32 (srt KS xs a.toNat b.toNat), .i .i64 a, .i .i64 b, .fn F []])) | _ => .fail
def oc_slices_insertionSortCmpFunc_float32_ (xs : List Nat) (a : Int) (b : Int) (F : FuncId) (d : Nat) (as : List AV) : T AV := match d with | 32 => (match as with | [.f _ x, .f _ y] => .leaf (.i .i64 (signM x y)) | _ => .fail) | _ => .fail
def h_slices_insertionSortCmpFunc_float32__L0 (xs : List Nat) (a : Int) (b : Int) (F : FuncId) (data : List Nat) (i : Int) : Env := [.sl (Tag.own 800000) 0 (.f .f32 data), AV.i .i64 a, AV.i .i64 b, AV.fn F []] ++ anys 4 ++ [.i .i64 i] ++ anys 44
def h_slices_insertionSortCmpFunc_float32__L2 (xs : List Nat) (a : Int) (b : Int) (F : FuncId) (data : List Nat) (i : Int) (data2 : List Nat) (j : Int) : Env := [.sl (Tag.own 800000) 0 (.f .f32 data2), AV.i .i64 a, AV.i .i64 b, AV.fn F []] ++ anys 4 ++ [AV.i .i64 i, .i .i64 j] ++ anys 43

theorem q_slices_insertionSortCmpFunc_float32__L0 {VC : FuncId → List AV → AV → Prop} (xs : List Nat) (a : Int) (b : Int) (F : FuncId) (data : List Nat) (i : Int) {e_ : Ex} {σ_ : Env} (ht : T.ok (fun x_ => x_ = (e_, σ_)) (
 T.ite (decide (i < b))
 (T.ob
 (Exec VC ps_slices_insertionSortCmpFunc_float32_ (VCode.block 2 (VCode.loop b_slices_insertionSortCmpFunc_float32__L2)) (h_slices_insertionSortCmpFunc_float32__L2 xs a b F data i data i) Ex.normal
 (h_slices_insertionSortCmpFunc_float32__L0 xs a b F (sink KS (Int.toNat a) (Int.toNat i) data) i))
 (T.leaf (Ex.normal, h_slices_insertionSortCmpFunc_float32__L0 xs a b F (sink KS (Int.toNat a) (Int.toNat i) data) (wrap .i64 (i + 1)))))
 (T.leaf (Ex.exit 0, h_slices_insertionSortCmpFunc_float32__L0 xs a b F data i)))) :
 Exec VC ps_slices_insertionSortCmpFunc_float32_ (b_slices_insertionSortCmpFunc_float32__L0) (h_slices_insertionSortCmpFunc_float32__L0 xs a b F data i) e_ σ_ := evL_of (lv := lv_slices_insertionSortCmpFunc_float32__L0) (rs := []) (O := ⟨oc_slices_insertionSortCmpFunc_float32_ xs a b F, fun id σ => match id with | 2 => some (lv_slices_insertionSortCmpFunc_float32__L2, .leaf (.normal, Env.clear [0, 1, 2, 3, 8] (h_slices_insertionSortCmpFunc_float32__L2 xs a b F data i (sink KS a.toNat i.toNat data) 0))) | _ => none⟩) (by kernel_rfl) ht

theorem q_slices_insertionSortCmpFunc_float32__L2 {VC : FuncId → List AV → AV → Prop} (xs : List Nat) (a : Int) (b : Int) (F : FuncId) (data : List Nat) (i : Int) (data2 : List Nat) (j : Int) {e_ : Ex} {σ_ : Env} (ht : T.ok (fun x_ => x_ = (e_, σ_)) (
 T.ite (decide (j > a))
 (T.ob (0 ≤ j ∧ j < (↑(List.length data2) : Int))
 (T.ob (0 ≤ wrap .i64 (j - 1) ∧ wrap .i64 (j - 1) < (↑(List.length data2) : Int))
 (T.ob
 (VC F [AV.f .f32 (List.getD data2 (Int.toNat j) 0), AV.f .f32 (List.getD data2 (Int.toNat (wrap .i64 (j - 1))) 0)]
 (AV.i .i64 (signM (List.getD data2 (Int.toNat j) 0) (List.getD data2 (Int.toNat (wrap .i64 (j - 1))) 0))))
 (T.ite (decide (signM (List.getD data2 (Int.toNat j) 0) (List.getD data2 (Int.toNat (wrap .i64 (j - 1))) 0) < 0))
 (T.ob (0 ≤ wrap .i64 (j - 1) ∧ wrap .i64 (j - 1) < (↑(List.length data2) : Int))
 (T.ob (0 ≤ j ∧ j < (↑(List.length data2) : Int))
 (T.ob (0 ≤ j ∧ j < (↑(List.length data2) : Int))
 (T.ob (false = false)
 (T.ob
 (0 ≤ wrap .i64 (j - 1) ∧
 wrap .i64 (j - 1) < (↑(List.length (List.set data2 (0 + Int.toNat j - 0) (List.getD data2 (Int.toNat (wrap .i64 (j - 1))) 0))) : Int))
 (T.ob (false = false)
 (T.leaf
 (Ex.normal,
 h_slices_insertionSortCmpFunc_float32__L2 xs a b F data i
 (List.set (List.set data2 (0 + Int.toNat j - 0) (List.getD data2 (Int.toNat (wrap .i64 (j - 1))) 0)) (0 + Int.toNat (wrap .i64 (j - 1)) - 0)
 (List.getD data2 (Int.toNat j) 0))
 (wrap .i64 (j - 1))))))))))
 (T.leaf (Ex.exit 2, h_slices_insertionSortCmpFunc_float32__L2 xs a b F data i data2 j))))))
 (T.leaf (Ex.exit 2, h_slices_insertionSortCmpFunc_float32__L2 xs a b F data i data2 j)))) :
 Exec VC ps_slices_insertionSortCmpFunc_float32_ (b_slices_insertionSortCmpFunc_float32__L2) (h_slices_insertionSortCmpFunc_float32__L2 xs a b F data i data2 j) e_ σ_ := evL_of (lv := lv_slices_insertionSortCmpFunc_float32__L2) (rs := []) (O := ⟨oc_slices_insertionSortCmpFunc_float32_ xs a b F, fun _ _ => none⟩) (by kernel_rfl) ht

theorem q_slices_insertionSortCmpFunc_float32_ {P : Program} {g_f : FuncId} (h_ : Is_slices_insertionSortCmpFunc_float32_ P g_f) (xs : List Nat) (a : Int) (b : Int) (F : FuncId) (ht : T.ok (fun x_ => x_ = (.tup [], [OS HI .f32 (srt KS xs a.toNat b.toNat), .i .i64 a, .i .i64 b, .fn F []])) (
 T.ob
 (Exec (VCall P) ps_slices_insertionSortCmpFunc_float32_ (VCode.block 0 (VCode.loop b_slices_insertionSortCmpFunc_float32__L0)) (h_slices_insertionSortCmpFunc_float32__L0 xs a b F xs (wrap .i64 (a + 1)))
 Ex.normal (AV.sl (Tag.own 800000) 0 (Cont.f .f32 (srt KS xs (Int.toNat a) (Int.toNat b))) :: AV.i .i64 a :: AV.i .i64 b :: AV.fn F [] :: anys 49))
 (T.ob (List.length xs = List.length (srt KS xs (Int.toNat a) (Int.toNat b)) ∧ True)
 (T.leaf (AV.tup [], [AV.sl (Tag.own 800000) 0 (Cont.f .f32 (srt KS xs (Int.toNat a) (Int.toNat b))), AV.i .i64 a, AV.i .i64 b, AV.fn F []]))))) :
 VCall P g_f [OS HI .f32 xs, .i .i64 a, .i .i64 b, .fn F []] (AV.M (.tup []) [OS HI .f32 (srt KS xs a.toNat b.toNat), .i .i64 a, .i .i64 b, .fn F []]) := h_.callM_of ps_slices_insertionSortCmpFunc_float32_ [0] ⟨oc_slices_insertionSortCmpFunc_float32_ xs a b F, fun id σ => match id with | 0 => some (lv_slices_insertionSortCmpFunc_float32__L0, .leaf (.normal, Env.clear [0, 1, 2, 3] (h_slices_insertionSortCmpFunc_float32__L0 xs a b F (srt KS xs a.toNat b.toNat) 0))) | _ => none⟩ (by kernel_rfl) ht

-- END slices_insertionSortCmpFunc_float32_

-- FN slices_swapRangeCmpFunc_float32_
def ps_slices_swapRangeCmpFunc_float32_ : List Nat := [0, 1, 2, 3, 10, 13]
def lv_slices_swapRangeCmpFunc_float32__L0 : List Nat := [0, 1, 2, 3, 10]
def b_slices_swapRangeCmpFunc_float32__L0 : VCode :=
 (.seq
 (.seq
 (.region false [
 ⟨some 11, .mv, [.t 10], none⟩,
 ⟨some 12, .mv, [.t 3], none⟩,
 ⟨some 13, (.bin .lss), [.t 11, .t 12], none⟩])
 (.cond (.t 13)
 .skip
 (.exit 0)))
 (.seq
 (.block 1
 (.region true [
 ⟨some 16, .mv, [.t 0], none⟩,
 ⟨some 17, .mv, [.t 1], none⟩,
 ⟨some 18, .mv, [.t 10], none⟩,
 ⟨some 19, (.bin .add), [.t 17, .t 18], none⟩,
 ⟨some 20, .mv, [.t 0], none⟩,
 ⟨some 21, .mv, [.t 2], none⟩,
 ⟨some 22, .mv, [.t 10], none⟩,
 ⟨some 23, (.bin .add), [.t 21, .t 22], none⟩,
 ⟨some 24, .mv, [.t 0], none⟩,
 ⟨some 25, .mv, [.t 2], none⟩,
 ⟨some 26, .mv, [.t 10], none⟩,
 ⟨some 27, (.bin .add), [.t 25, .t 26], none⟩,
 ⟨some 28, .iaddr, [.t 24, .t 27], none⟩,
 ⟨some 29, .load, [.t 28], none⟩,
 ⟨some 30, .mv, [.t 0], none⟩,
 ⟨some 31, .mv, [.t 1], none⟩,
 ⟨some 32, .mv, [.t 10], none⟩,
 ⟨some 33, (.bin .add), [.t 31, .t 32], none⟩,
 ⟨some 34, .iaddr, [.t 30, .t 33], none⟩,
 ⟨some 35, .load, [.t 34], none⟩,
 ⟨some 36, .iaddr, [.t 16, .t 19], none⟩,
 ⟨none, .store, [.t 36, .t 29], none⟩,
 ⟨some 37, .iaddr, [.t 20, .t 23], none⟩,
 ⟨none, .store, [.t 37, .t 35], none⟩]))
 (.region false [
 ⟨some 14, .mv, [.t 10], none⟩,
 ⟨some 15, (.bin .add), [.t 14, .k (.i .i64 1)], none⟩,
 ⟨some 10, .mv, [.t 15], none⟩])))

def b_slices_swapRangeCmpFunc_float32_ : VCode :=
 (.seq
 (.region false [
 ⟨some 10, .mv, [.k (.i .i64 0)], none⟩])
 (.block 0 (.loop b_slices_swapRangeCmpFunc_float32__L0)))

abbrev Is_slices_swapRangeCmpFunc_float32_ (P : Program) (g_f : FuncId) : Prop := FnIs P g_f 38 [] (b_slices_swapRangeCmpFunc_float32_)

abbrev C_slices_swapRangeCmpFunc_float32_ (P : Program) (g_f : FuncId) : Prop := ∀ (xs : List Nat) (a : Int) (b : Int) (n : Int) (F : FuncId) (hab : 0 ≤ a ∧ 0 ≤ n ∧ a + n ≤ b ∧ b + n ≤ xs.length) (hx : xs.length ≤ 5000), VCall P g_f [OS HI .f32 xs, .i .i64 a, .i .i64 b, .i .i64 n, .fn F []] ((AV.M (.tup []) [OS HI .f32 (swpR xs a.toNat b.toNat n.toNat), .i .i64 a, .i .i64 b, .i .i64 n, .fn F []]))
def oc1_slices_swapRangeCmpFunc_float32_ (as : List AV) : T AV := match as with | [.sl _ _ (.f .f32 xs), .i .i64 a, .i .i64 b, .i .i64 n, .fn F []] => .leaf ((AV.M (.tup []) [OS HI .f32 (swpR xs a.toNat b.toNat n.toNat), .i .i64 a, .i .i64 b, .i .i64 n, .fn F []])) | _ => .fail
def h_slices_swapRangeCmpFunc_float32__L0 (xs : List Nat) (a : Int) (b : Int) (n : Int) (F : FuncId) (data : List Nat) (i : Int) : Env := [.sl (Tag.own 800000) 0 (.f .f32 data), AV.i .i64 a, AV.i .i64 b, AV.i .i64 n] ++ anys 6 ++ [.i .i64 i] ++ anys 27

theorem q_slices_swapRangeCmpFunc_float32__L0 {VC : FuncId → List AV → AV → Prop} (xs : List Nat) (a : Int) (b : Int) (n : Int) (F : FuncId) (data : List Nat) (i : Int) {e_ : Ex} {σ_ : Env} (ht : T.ok (fun x_ => x_ = (e_, σ_)) (
 T.ite (decide (i < n))
 (T.ob (0 ≤ wrap .i64 (b + i) ∧ wrap .i64 (b + i) < (↑(List.length data) : Int))
 (T.ob (0 ≤ wrap .i64 (a + i) ∧ wrap .i64 (a + i) < (↑(List.length data) : Int))
 (T.ob (0 ≤ wrap .i64 (a + i) ∧ wrap .i64 (a + i) < (↑(List.length data) : Int))
 (T.ob (false = false)
 (T.ob
 (0 ≤ wrap .i64 (b + i) ∧
 wrap .i64 (b + i) < (↑(List.length (List.set data (0 + Int.toNat (wrap .i64 (a + i)) - 0) (List.getD data (Int.toNat (wrap .i64 (b + i))) 0))) : Int))
 (T.ob (false = false)
 (T.leaf
 (Ex.normal,
 h_slices_swapRangeCmpFunc_float32__L0 xs a b n F
 (List.set (List.set data (0 + Int.toNat (wrap .i64 (a + i)) - 0) (List.getD data (Int.toNat (wrap .i64 (b + i))) 0))
 (0 + Int.toNat (wrap .i64 (b + i)) - 0) (List.getD data (Int.toNat (wrap .i64 (a + i))) 0))
 (wrap .i64 (i + 1))))))))))
 (T.leaf (Ex.exit 0, h_slices_swapRangeCmpFunc_float32__L0 xs a b n F data i)))) :
 Exec VC ps_slices_swapRangeCmpFunc_float32_ (b_slices_swapRangeCmpFunc_float32__L0) (h_slices_swapRangeCmpFunc_float32__L0 xs a b n F data i) e_ σ_ := evL_of (lv := lv_slices_swapRangeCmpFunc_float32__L0) (rs := []) (O := ⟨fun _ _ => .fail, fun _ _ => none⟩) (by kernel_rfl) ht

theorem q_slices_swapRangeCmpFunc_float32_ {P : Program} {g_f : FuncId} (h_ : Is_slices_swapRangeCmpFunc_float32_ P g_f) (xs : List Nat) (a : Int) (b : Int) (n : Int) (F : FuncId) (ht : T.ok (fun x_ => x_ = (.tup [], [OS HI .f32 (swpR xs a.toNat b.toNat n.toNat), .i .i64 a, .i .i64 b, .i .i64 n, .fn F []])) (
 T.ob
 (Exec (VCall P) ps_slices_swapRangeCmpFunc_float32_ (VCode.block 0 (VCode.loop b_slices_swapRangeCmpFunc_float32__L0)) (h_slices_swapRangeCmpFunc_float32__L0 xs a b n F xs 0) Ex.normal
 (h_slices_swapRangeCmpFunc_float32__L0 xs a b n F (swpR xs (Int.toNat a) (Int.toNat b) (Int.toNat n)) n))
 (T.ob (List.length xs = List.length (swpR xs (Int.toNat a) (Int.toNat b) (Int.toNat n)) ∧ True)
 (T.leaf (AV.tup [], [AV.sl (Tag.own 800000) 0 (Cont.f .f32 (swpR xs (Int.toNat a) (Int.toNat b) (Int.toNat n))), AV.i .i64 a, AV.i .i64 b, AV.i .i64 n, AV.fn F []]))))) :
 VCall P g_f [OS HI .f32 xs, .i .i64 a, .i .i64 b, .i .i64 n, .fn F []] (AV.M (.tup []) [OS HI .f32 (swpR xs a.toNat b.toNat n.toNat), .i .i64 a, .i .i64 b, .i .i64 n, .fn F []]) := h_.callM_of ps_slices_swapRangeCmpFunc_float32_ [0] ⟨fun _ _ => .fail, fun id σ => match id with | 0 => some (lv_slices_swapRangeCmpFunc_float32__L0, .leaf (.normal, h_slices_swapRangeCmpFunc_float32__L0 xs a b n F (swpR xs a.toNat b.toNat n.toNat) n)) | _ => none⟩ (by kernel_rfl) ht

-- END slices_swapRangeCmpFunc_float32_

-- FN slices_rotateCmpFunc_float32_
def ps_slices_rotateCmpFunc_float32_ : List Nat := [0, 1, 2, 3, 4, 10, 11, 20, 23]
def lv_slices_rotateCmpFunc_float32__L0 : List Nat := [0, 2, 4, 10, 11]
def b_slices_rotateCmpFunc_float32__L0 (gq0 : FuncId) : VCode :=
 (.seq
 (.seq
 (.region false [
 ⟨some 18, .mv, [.t 10], none⟩,
 ⟨some 19, .mv, [.t 11], none⟩,
 ⟨some 20, (.bin .neq), [.t 18, .t 19], none⟩])
 (.cond (.t 20)
 .skip
 (.exit 0)))
 (.block 1
 (.seq
 (.region false [
 ⟨some 21, .mv, [.t 10], none⟩,
 ⟨some 22, .mv, [.t 11], none⟩,
 ⟨some 23, (.bin .gtr), [.t 21, .t 22], none⟩])
 (.cond (.t 23)
 (.seq
 (.region false [
 ⟨some 24, .mv, [.t 0], none⟩,
 ⟨some 25, .mv, [.t 2], none⟩,
 ⟨some 26, .mv, [.t 10], none⟩,
 ⟨some 27, (.bin .sub), [.t 25, .t 26], none⟩,
 ⟨some 28, .mv, [.t 2], none⟩,
 ⟨some 29, .mv, [.t 11], none⟩,
 ⟨some 30, .mv, [.t 4], none⟩,
 ⟨some 31, (.call gq0), [.t 24, .t 27, .t 28, .t 29, .t 30], none⟩])
 (.region false [
 ⟨some 32, .mv, [.t 10], none⟩,
 ⟨some 33, .mv, [.t 11], none⟩,
 ⟨some 34, (.bin .sub), [.t 32, .t 33], none⟩,
 ⟨some 10, .mv, [.t 34], none⟩]))
 (.seq
 (.region false [
 ⟨some 35, .mv, [.t 0], none⟩,
 ⟨some 36, .mv, [.t 2], none⟩,
 ⟨some 37, .mv, [.t 10], none⟩,
 ⟨some 38, (.bin .sub), [.t 36, .t 37], none⟩,
 ⟨some 39, .mv, [.t 2], none⟩,
 ⟨some 40, .mv, [.t 11], none⟩,
 ⟨some 41, (.bin .add), [.t 39, .t 40], none⟩,
 ⟨some 42, .mv, [.t 10], none⟩,
 ⟨some 43, (.bin .sub), [.t 41, .t 42], none⟩,
 ⟨some 44, .mv, [.t 10], none⟩,
 ⟨some 45, .mv, [.t 4], none⟩,
 ⟨some 46, (.call gq0), [.t 35, .t 38, .t 43, .t 44, .t 45], none⟩])
 (.region false [
 ⟨some 47, .mv, [.t 11], none⟩,
 ⟨some 48, .mv, [.t 10], none⟩,
 ⟨some 49, (.bin .sub), [.t 47, .t 48], none⟩,
 ⟨some 11, .mv, [.t 49], none⟩]))))))

def b_slices_rotateCmpFunc_float32_ (gq0 : FuncId) : VCode :=
 (.seq
 (.region false [
 ⟨some 12, .mv, [.t 2], none⟩,
 ⟨some 13, .mv, [.t 1], none⟩,
 ⟨some 14, (.bin .sub), [.t 12, .t 13], none⟩,
 ⟨some 10, .mv, [.t 14], none⟩])
 (.seq
 (.region false [
 ⟨some 15, .mv, [.t 3], none⟩,
 ⟨some 16, .mv, [.t 2], none⟩,
 ⟨some 17, (.bin .sub), [.t 15, .t 16], none⟩,
 ⟨some 11, .mv, [.t 17], none⟩])
 (.seq
 (.block 0 (.loop (b_slices_rotateCmpFunc_float32__L0 gq0)))
 (.region false [
 ⟨some 50, .mv, [.t 0], none⟩,
 ⟨some 51, .mv, [.t 2], none⟩,
 ⟨some 52, .mv, [.t 10], none⟩,
 ⟨some 53, (.bin .sub), [.t 51, .t 52], none⟩,
 ⟨some 54, .mv, [.t 2], none⟩,
 ⟨some 55, .mv, [.t 10], none⟩,
 ⟨some 56, .mv, [.t 4], none⟩,
 ⟨some 57, (.call gq0), [.t 50, .t 53, .t 54, .t 55, .t 56], none⟩]))))

abbrev Is_slices_rotateCmpFunc_float32_ (P : Program) (g_f : FuncId) (gq0 : FuncId) : Prop := FnIs P g_f 58 [] (b_slices_rotateCmpFunc_float32_ gq0)

abbrev C_slices_rotateCmpFunc_float32_ (P : Program) (g_f : FuncId) : Prop := ∀ (xs : List Nat) (a : Int) (m : Int) (b : Int) (F : FuncId) (zs : List Nat) (g : Nat) (hz : rotF (b - a).toNat m.toNat (m - a).toNat (b - m).toNat xs = (zs, g)) (hab : 0 ≤ a ∧ a < m ∧ m < b ∧ b ≤ xs.length) (hx : xs.length ≤ 5000), VCall P g_f [OS HI .f32 xs, .i .i64 a, .i .i64 m, .i .i64 b, .fn F []] ((AV.M (.tup []) [OS HI .f32 (rotM xs a.toNat m.toNat b.toNat), .i .i64 a, .i .i64 m, .i .i64 b, .fn F []]))
def oc1_slices_rotateCmpFunc_float32_ (as : List AV) : T AV := match as with | [.sl _ _ (.f .f32 xs), .i .i64 a, .i .i64 m, .i .i64 b, .fn F []] => .leaf ((AV.M (.tup []) [OS HI .f32 (rotM xs a.toNat m.toNat b.toNat), .i .i64 a, .i .i64 m, .i .i64 b, .fn F []])) | _ => .fail
def oc_slices_rotateCmpFunc_float32_ (xs : List Nat) (a : Int) (m : Int) (b : Int) (F : FuncId) (zs : List Nat) (g : Nat) (d : Nat) (as : List AV) : T AV := match d with | 31 => oc1_slices_swapRangeCmpFunc_float32_ as | 46 => oc1_slices_swapRangeCmpFunc_float32_ as | 57 => oc1_slices_swapRangeCmpFunc_float32_ as | _ => .fail
def h_slices_rotateCmpFunc_float32__L0 (xs : List Nat) (a : Int) (m : Int) (b : Int) (F : FuncId) (zs : List Nat) (g : Nat) (data : List Nat) (i : Int) (j : Int) : Env := [.sl (Tag.own 800000) 0 (.f .f32 data), .any, AV.i .i64 m, .any, AV.fn F []] ++ anys 5 ++ [.i .i64 i, .i .i64 j] ++ anys 46

theorem q_slices_rotateCmpFunc_float32__L0 {VC : FuncId → List AV → AV → Prop} {gq0 : FuncId} (xs : List Nat) (a : Int) (m : Int) (b : Int) (F : FuncId) (zs : List Nat) (g : Nat) (data : List Nat) (i : Int) (j : Int) {e_ : Ex} {σ_ : Env} (ht : T.ok (fun x_ => x_ = (e_, σ_)) (
 T.ite (i != j)
 (T.ite (decide (i > j))
 (T.ob
 (VC gq0 [AV.sl (Tag.own 800000) 0 (Cont.f .f32 data), AV.i .i64 (wrap .i64 (m - i)), AV.i .i64 m, AV.i .i64 j, AV.fn F []]
 (AV.bx Tag.nil
 [AV.tup [],
 AV.tup
 [AV.sl (Tag.own 800000) 0 (Cont.f .f32 (swpR data (Int.toNat (wrap .i64 (m - i))) (Int.toNat m) (Int.toNat j))), AV.i .i64 (wrap .i64 (m - i)),
 AV.i .i64 m, AV.i .i64 j, AV.fn F []]]) ∧
 List.length data = List.length (swpR data (Int.toNat (wrap .i64 (m - i))) (Int.toNat m) (Int.toNat j)) ∧
 List.length data = List.length (swpR data (Int.toNat (wrap .i64 (m - i))) (Int.toNat m) (Int.toNat j)) ∧ True)
 (T.leaf (Ex.normal, h_slices_rotateCmpFunc_float32__L0 xs a m b F zs g (swpR data (Int.toNat (wrap .i64 (m - i))) (Int.toNat m) (Int.toNat j)) (wrap .i64 (i - j)) j)))
 (T.ob
 (VC gq0
 [AV.sl (Tag.own 800000) 0 (Cont.f .f32 data), AV.i .i64 (wrap .i64 (m - i)), AV.i .i64 (wrap .i64 (wrap .i64 (m + j) - i)),
 AV.i .i64 i, AV.fn F []]
 (AV.bx Tag.nil
 [AV.tup [],
 AV.tup
 [AV.sl (Tag.own 800000) 0 (Cont.f .f32 (swpR data (Int.toNat (wrap .i64 (m - i))) (Int.toNat (wrap .i64 (wrap .i64 (m + j) - i))) (Int.toNat i))),
 AV.i .i64 (wrap .i64 (m - i)), AV.i .i64 (wrap .i64 (wrap .i64 (m + j) - i)), AV.i .i64 i, AV.fn F []]]) ∧
 List.length data = List.length (swpR data (Int.toNat (wrap .i64 (m - i))) (Int.toNat (wrap .i64 (wrap .i64 (m + j) - i))) (Int.toNat i)) ∧
 List.length data = List.length (swpR data (Int.toNat (wrap .i64 (m - i))) (Int.toNat (wrap .i64 (wrap .i64 (m + j) - i))) (Int.toNat i)) ∧ True)
 (T.leaf
 (Ex.normal,
 h_slices_rotateCmpFunc_float32__L0 xs a m b F zs g (swpR data (Int.toNat (wrap .i64 (m - i))) (Int.toNat (wrap .i64 (wrap .i64 (m + j) - i))) (Int.toNat i)) i
 (wrap .i64 (j - i))))))
 (T.leaf (Ex.exit 0, h_slices_rotateCmpFunc_float32__L0 xs a m b F zs g data i j)))) :
 Exec VC ps_slices_rotateCmpFunc_float32_ (b_slices_rotateCmpFunc_float32__L0 gq0) (h_slices_rotateCmpFunc_float32__L0 xs a m b F zs g data i j) e_ σ_ := evL_of (lv := lv_slices_rotateCmpFunc_float32__L0) (rs := []) (O := ⟨oc_slices_rotateCmpFunc_float32_ xs a m b F zs g, fun _ _ => none⟩) (by kernel_rfl) ht

theorem q_slices_rotateCmpFunc_float32_ {P : Program} {g_f : FuncId} {gq0 : FuncId} (h_ : Is_slices_rotateCmpFunc_float32_ P g_f gq0) (xs : List Nat) (a : Int) (m : Int) (b : Int) (F : FuncId) (zs : List Nat) (g : Nat) (ht : T.ok (fun x_ => x_ = (.tup [], [OS HI .f32 (rotM xs a.toNat m.toNat b.toNat), .i .i64 a, .i .i64 m, .i .i64 b, .fn F []])) (
 T.ob
 (Exec (VCall P) ps_slices_rotateCmpFunc_float32_ (VCode.block 0 (VCode.loop (b_slices_rotateCmpFunc_float32__L0 gq0)))
 (h_slices_rotateCmpFunc_float32__L0 xs a m b F zs g xs (wrap .i64 (m - a)) (wrap .i64 (b - m))) Ex.normal (h_slices_rotateCmpFunc_float32__L0 xs a m b F zs g zs (↑g : Int) (↑g : Int)))
 (T.ob
 ((VCall P) gq0 [AV.sl (Tag.own 800000) 0 (Cont.f .f32 zs), AV.i .i64 (wrap .i64 (m - (↑g : Int))), AV.i .i64 m, AV.i .i64 (↑g : Int), AV.fn F []]
 (AV.bx Tag.nil
 [AV.tup [],
 AV.tup
 [AV.sl (Tag.own 800000) 0 (Cont.f .f32 (swpR zs (Int.toNat (wrap .i64 (m - (↑g : Int)))) (Int.toNat m) (Int.toNat (↑g : Int)))),
 AV.i .i64 (wrap .i64 (m - (↑g : Int))), AV.i .i64 m, AV.i .i64 (↑g : Int), AV.fn F []]]) ∧
 List.length zs = List.length (swpR zs (Int.toNat (wrap .i64 (m - (↑g : Int)))) (Int.toNat m) (Int.toNat (↑g : Int))) ∧
 List.length zs = List.length (swpR zs (Int.toNat (wrap .i64 (m - (↑g : Int)))) (Int.toNat m) (Int.toNat (↑g : Int))) ∧ True)
 (T.ob (List.length xs = List.length (swpR zs (Int.toNat (wrap .i64 (m - (↑g : Int)))) (Int.toNat m) (Int.toNat (↑g : Int))) ∧ True)
 (T.leaf
 (AV.tup [],
 [AV.sl (Tag.own 800000) 0 (Cont.f .f32 (swpR zs (Int.toNat (wrap .i64 (m - (↑g : Int)))) (Int.toNat m) (Int.toNat (↑g : Int)))), AV.i .i64 a, AV.i .i64 m,
 AV.i .i64 b, AV.fn F []])))))) :
 VCall P g_f [OS HI .f32 xs, .i .i64 a, .i .i64 m, .i .i64 b, .fn F []] (AV.M (.tup []) [OS HI .f32 (rotM xs a.toNat m.toNat b.toNat), .i .i64 a, .i .i64 m, .i .i64 b, .fn F []]) := h_.callM_of ps_slices_rotateCmpFunc_float32_ [0] ⟨oc_slices_rotateCmpFunc_float32_ xs a m b F zs g, fun id σ => match id with | 0 => some (lv_slices_rotateCmpFunc_float32__L0, .leaf (.normal, h_slices_rotateCmpFunc_float32__L0 xs a m b F zs g zs g g)) | _ => none⟩ (by kernel_rfl) ht

-- END slices_rotateCmpFunc_float32_

theorem block_of {VC : FuncId → List AV → AV → Prop} {ps : List Nat} {id : Nat} {b : VCode} {σ σ' : Env} (h : Exec VC ps (.loop b) σ (.exit id) σ') : Exec VC ps (.block id (.loop b)) σ .normal σ' := by
  have := Exec.block (id := id) h
  simpa [Ex.inBlock] using this
theorem k_slices_insertionSortCmpFunc_float32_ {P : Program} {f : FuncId} (h : Is_slices_insertionSortCmpFunc_float32_ P f) : C_slices_insertionSortCmpFunc_float32_ P f := by
  intro xs a b F hab hN hF hx
  obtain ⟨a, rfl⟩ : ∃ a' : Nat, a = a' := ⟨a.toNat, by omega⟩
  obtain ⟨b, rfl⟩ : ∃ b' : Nat, b = b' := ⟨b.toNat, by omega⟩
  have inner : ∀ (i j : Nat) (D l : List Nat), l.length = xs.length → okM l → j < xs.length → ∃ j' : Int, Exec (VCall P) ps_slices_insertionSortCmpFunc_float32_ (.loop b_slices_insertionSortCmpFunc_float32__L2)
      (h_slices_insertionSortCmpFunc_float32__L2 xs a b F D i l j) (.exit 2) (h_slices_insertionSortCmpFunc_float32__L2 xs a b F D i (sink KS a j l) j') := by
    intro i j
    induction j with
    | zero =>
      intro D l hl ho hj
      refine ⟨((0 : Nat) : Int), Exec.loopX (q_slices_insertionSortCmpFunc_float32__L2 _ _ _ _ _ _ _ _ ?_) (by simp)⟩
      repeat' (first | with_reducible refine T.ok_ob ?_ (fun _ => ?_) | with_reducible refine T.ok_ite (fun _ => ?_) (fun _ => ?_) | with_reducible refine T.ok_leaf ?_)
      all_goals (try simp only [decide_eq_true_eq, decide_eq_false_iff_not, Bool.not_eq_true', Bool.not_eq_false', Bool.not_eq_eq_eq_not, Bool.not_true, Bool.not_false, Int.toNat_natCast, tab_len, List.length_append, List.length_singleton, List.length_cons, List.length_nil, List.length_drop, List.length_take, getD_drop', getD_nat, reduceCtorEq] at *)
      all_goals (try simp (disch := omega) only [wrap64_id] at *)
      all_goals first | omega | (exfalso; omega) | exact True.intro | skip
      all_goals rfl
    | succ j ih =>
      intro D l hl ho hj
      have ew : IntKind.wrap .i64 (((j + 1 : Nat) : Int) - 1) = (j : Nat) := by rw [wrap64_id (by omega) (by omega)]; omega
      by_cases hc : a < j + 1 ∧ KS (l.getD (j + 1) 0) < KS (l.getD j 0)
      · obtain ⟨j', hj'⟩ := ih D (swp l (j + 1) j) (by rw [swp_len]; exact hl) (ok_swp ho (by omega) (by omega)) (by omega)
        have e : sink KS a (j + 1) l = sink KS a j (swp l (j + 1) j) := by rw [sink, if_pos hc]
        rw [e]
        refine ⟨j', Exec.loopN (q_slices_insertionSortCmpFunc_float32__L2 _ _ _ _ _ _ _ _ ?_) hj'⟩
        rw [ew]
        simp only [Int.toNat_natCast, Nat.zero_add, Nat.sub_zero]
        rw [sign_lt (ho _) (ho _), decide_eq_true hc.2]
        repeat' (first | with_reducible refine T.ok_ob ?_ (fun _ => ?_) | with_reducible refine T.ok_ite (fun _ => ?_) (fun _ => ?_) | with_reducible refine T.ok_leaf ?_)
        all_goals (try simp only [decide_eq_true_eq, decide_eq_false_iff_not, Bool.not_eq_true', Bool.not_eq_false', Bool.not_eq_eq_eq_not, Bool.not_true, Bool.not_false, Int.toNat_natCast, tab_len, List.length_append, List.length_singleton, List.length_cons, List.length_nil, List.length_drop, List.length_take, getD_drop', getD_nat, reduceCtorEq] at *)
        all_goals (try simp (disch := omega) only [wrap64_id] at *)
        all_goals first | omega | (exfalso; omega) | exact True.intro | skip
        all_goals first | exact hF _ _ | rfl | (simp; omega)
      · have e : sink KS a (j + 1) l = l := by rw [sink, if_neg hc]
        rw [e]
        refine ⟨((j + 1 : Nat) : Int), Exec.loopX (q_slices_insertionSortCmpFunc_float32__L2 _ _ _ _ _ _ _ _ ?_) (by simp)⟩
        rw [ew]
        simp only [Int.toNat_natCast, Nat.zero_add, Nat.sub_zero]
        rw [sign_lt (ho _) (ho _)]
        by_cases ha : a < j + 1
        · rw [decide_eq_false (show ¬ KS (l.getD (j + 1) 0) < KS (l.getD j 0) from fun h => hc ⟨ha, h⟩)]
          repeat' (first | with_reducible refine T.ok_ob ?_ (fun _ => ?_) | with_reducible refine T.ok_ite (fun _ => ?_) (fun _ => ?_) | with_reducible refine T.ok_leaf ?_)
          all_goals (try simp only [decide_eq_true_eq, decide_eq_false_iff_not, Bool.not_eq_true', Bool.not_eq_false', Bool.not_eq_eq_eq_not, Bool.not_true, Bool.not_false, Int.toNat_natCast, tab_len, List.length_append, List.length_singleton, List.length_cons, List.length_nil, List.length_drop, List.length_take, getD_drop', getD_nat, reduceCtorEq] at *)
          all_goals (try simp (disch := omega) only [wrap64_id] at *)
          all_goals first | omega | (exfalso; omega) | exact True.intro | skip
          all_goals first | exact hF _ _ | rfl
        · repeat' (first | with_reducible refine T.ok_ob ?_ (fun _ => ?_) | with_reducible refine T.ok_ite (fun _ => ?_) (fun _ => ?_) | with_reducible refine T.ok_leaf ?_)
          all_goals (try simp only [decide_eq_true_eq, decide_eq_false_iff_not, Bool.not_eq_true', Bool.not_eq_false', Bool.not_eq_eq_eq_not, Bool.not_true, Bool.not_false, Int.toNat_natCast, tab_len, List.length_append, List.length_singleton, List.length_cons, List.length_nil, List.length_drop, List.length_take, getD_drop', getD_nat, reduceCtorEq] at *)
          all_goals (try simp (disch := omega) only [wrap64_id] at *)
          all_goals first | omega | (exfalso; omega) | exact True.intro | skip
          all_goals first | exact hF _ _ | rfl
  have sl := fun i (h1 : a ≤ i) (h2 : i ≤ xs.length) => srt_rel (K := KS) (l := xs) (a := a) (b := i) h1 h2
  have done : ∀ (D : List Nat) (i i' : Int), Env.clear [0, 1, 2, 3] (h_slices_insertionSortCmpFunc_float32__L0 xs a b F D i) = Env.clear [0, 1, 2, 3] (h_slices_insertionSortCmpFunc_float32__L0 xs a b F D i') := fun _ _ _ => rfl
  refine q_slices_insertionSortCmpFunc_float32_ h xs a b F ⟨?_, fun _ => ⟨⟨by simp only [Int.toNat_natCast]; exact ((sl b (by omega) (by omega)).1.len).symm, trivial⟩, fun _ => rfl⟩⟩
  simp only [Int.toNat_natCast]
  have ew : IntKind.wrap .i64 ((a : Int) + 1) = (a + 1 : Nat) := by rw [wrap64_id (by omega) (by omega)]; omega
  rw [ew]
  by_cases hb : a + 1 ≤ b
  · have main : Exec (VCall P) ps_slices_insertionSortCmpFunc_float32_ (.block 0 (.loop b_slices_insertionSortCmpFunc_float32__L0)) (h_slices_insertionSortCmpFunc_float32__L0 xs a b F xs (a + 1 : Nat)) .normal (h_slices_insertionSortCmpFunc_float32__L0 xs a b F (srt KS xs a b) b) := by
      refine for_up (e := .exit 0) (b - (a + 1)) (fun k => h_slices_insertionSortCmpFunc_float32__L0 xs a b F (srt KS xs a (a + 1 + k)) (a + 1 + k : Nat)) ?_ (fun k hk => ?_) ?_
      · simp only [Nat.add_zero]
        rw [srt_small xs a (a + 1) (by omega) (by omega) (by omega)]
      · refine q_slices_insertionSortCmpFunc_float32__L0 _ _ _ _ _ _ ?_
        obtain ⟨r1, r2⟩ := sl (a + 1 + k) (by omega) (by omega)
        obtain ⟨j', hj'⟩ := inner (a + 1 + k) (a + 1 + k) (srt KS xs a (a + 1 + k)) (srt KS xs a (a + 1 + k)) r1.len (ok_rel r1 hN) (by omega)
        have hin := Exec.forgetR [0, 1, 2, 3, 8] (block_of hj')
        have en : sink KS a (a + 1 + k) (srt KS xs a (a + 1 + k)) = srt KS xs a (a + 1 + (k + 1)) := sink_next (by omega) (by omega)
        rw [en] at hin
        simp only [Int.toNat_natCast]
        rw [en]
        have e1 : IntKind.wrap .i64 (((a + 1 + k : Nat) : Int) + 1) = (a + 1 + (k + 1) : Nat) := by rw [wrap64_id (by omega) (by omega)]; omega
        rw [e1]
        repeat' (first | with_reducible refine T.ok_ob ?_ (fun _ => ?_) | with_reducible refine T.ok_ite (fun _ => ?_) (fun _ => ?_) | with_reducible refine T.ok_leaf ?_)
        all_goals (try simp only [decide_eq_true_eq, decide_eq_false_iff_not, Bool.not_eq_true', Bool.not_eq_false', Bool.not_eq_eq_eq_not, Bool.not_true, Bool.not_false, Int.toNat_natCast, tab_len, List.length_append, List.length_singleton, List.length_cons, List.length_nil, List.length_drop, List.length_take, getD_drop', getD_nat, reduceCtorEq] at *)
        all_goals (try simp (disch := omega) only [wrap64_id] at *)
        all_goals first | omega | (exfalso; omega) | exact True.intro | skip
        all_goals first | exact hin | rfl
      · refine q_slices_insertionSortCmpFunc_float32__L0 _ _ _ _ _ _ ?_
        rw [show a + 1 + (b - (a + 1)) = b by omega]
        repeat' (first | with_reducible refine T.ok_ob ?_ (fun _ => ?_) | with_reducible refine T.ok_ite (fun _ => ?_) (fun _ => ?_) | with_reducible refine T.ok_leaf ?_)
        all_goals (try simp only [decide_eq_true_eq, decide_eq_false_iff_not, Bool.not_eq_true', Bool.not_eq_false', Bool.not_eq_eq_eq_not, Bool.not_true, Bool.not_false, Int.toNat_natCast, tab_len, List.length_append, List.length_singleton, List.length_cons, List.length_nil, List.length_drop, List.length_take, getD_drop', getD_nat, reduceCtorEq] at *)
        all_goals (try simp (disch := omega) only [wrap64_id] at *)
        all_goals first | omega | (exfalso; omega) | exact True.intro | skip
        all_goals rfl
    exact Exec.forgetR [0, 1, 2, 3] main
  · have : b = a := by omega
    subst this
    rw [srt_small xs b b (Nat.le_refl _) (by omega) (by omega)]
    have main : Exec (VCall P) ps_slices_insertionSortCmpFunc_float32_ (.block 0 (.loop b_slices_insertionSortCmpFunc_float32__L0)) (h_slices_insertionSortCmpFunc_float32__L0 xs b b F xs (b + 1 : Nat)) .normal (h_slices_insertionSortCmpFunc_float32__L0 xs b b F xs (b + 1 : Nat)) := by
      refine for_up (e := .exit 0) 0 (fun k => h_slices_insertionSortCmpFunc_float32__L0 xs b b F xs (b + 1 : Nat)) rfl (fun k hk => by omega) ?_
      refine q_slices_insertionSortCmpFunc_float32__L0 _ _ _ _ _ _ ?_
      repeat' (first | with_reducible refine T.ok_ob ?_ (fun _ => ?_) | with_reducible refine T.ok_ite (fun _ => ?_) (fun _ => ?_) | with_reducible refine T.ok_leaf ?_)
      all_goals (try simp only [decide_eq_true_eq, decide_eq_false_iff_not, Bool.not_eq_true', Bool.not_eq_false', Bool.not_eq_eq_eq_not, Bool.not_true, Bool.not_false, Int.toNat_natCast, tab_len, List.length_append, List.length_singleton, List.length_cons, List.length_nil, List.length_drop, List.length_take, getD_drop', getD_nat, reduceCtorEq] at *)
      all_goals (try simp (disch := omega) only [wrap64_id] at *)
      all_goals first | omega | (exfalso; omega) | exact True.intro | skip
      all_goals rfl
    exact Exec.forgetR [0, 1, 2, 3] main
theorem k_slices_swapRangeCmpFunc_float32_ {P : Program} {f : FuncId} (h : Is_slices_swapRangeCmpFunc_float32_ P f) : C_slices_swapRangeCmpFunc_float32_ P f := by
  intro xs a b n F hab hx
  obtain ⟨a, rfl⟩ : ∃ a' : Nat, a = a' := ⟨a.toNat, by omega⟩
  obtain ⟨b, rfl⟩ : ∃ b' : Nat, b = b' := ⟨b.toNat, by omega⟩
  obtain ⟨n, rfl⟩ : ∃ n' : Nat, n = n' := ⟨n.toNat, by omega⟩
  refine q_slices_swapRangeCmpFunc_float32_ h xs a b n F ⟨?_, fun _ => ⟨⟨(swpR_len _ _ _ _).symm, trivial⟩, fun _ => rfl⟩⟩
  simp only [Int.toNat_natCast]
  refine for_up (e := .exit 0) n (fun i => h_slices_swapRangeCmpFunc_float32__L0 xs a b n F (swpR xs a b i) i) (by rw [swpR_zero]; rfl) (fun i hi => ?_) ?_
  · refine q_slices_swapRangeCmpFunc_float32__L0 _ _ _ _ _ _ _ ?_
    have e1 : IntKind.wrap .i64 ((a : Int) + i) = (a + i : Nat) := by rw [wrap64_id (by omega) (by omega)]; omega
    have e2 : IntKind.wrap .i64 ((b : Int) + i) = (b + i : Nat) := by rw [wrap64_id (by omega) (by omega)]; omega
    have hl := swpR_len xs a b i
    rw [e1, e2]
    simp only [Int.toNat_natCast, Nat.zero_add, Nat.sub_zero]
    have es : ((swpR xs a b i).set (a + i) ((swpR xs a b i).getD (b + i) 0)).set (b + i) ((swpR xs a b i).getD (a + i) 0) = swpR xs a b (i + 1) := swpR_succ (N := n) (by omega) (by omega) hi
    rw [es]
    repeat' (first | with_reducible refine T.ok_ob ?_ (fun _ => ?_) | with_reducible refine T.ok_ite (fun _ => ?_) (fun _ => ?_) | with_reducible refine T.ok_leaf ?_)
    all_goals (try simp only [decide_eq_true_eq, decide_eq_false_iff_not, Bool.not_eq_true', Bool.not_eq_false', Bool.not_eq_eq_eq_not, Bool.not_true, Bool.not_false, Int.toNat_natCast, tab_len, List.length_append, List.length_singleton, List.length_cons, List.length_nil, List.length_drop, List.length_take, getD_drop', getD_nat, reduceCtorEq] at *)
    all_goals (try simp (disch := omega) only [wrap64_id] at *)
    all_goals first | omega | (exfalso; omega) | exact True.intro | skip
    all_goals first | rfl | (simp; omega)
  · refine q_slices_swapRangeCmpFunc_float32__L0 _ _ _ _ _ _ _ ?_
    repeat' (first | with_reducible refine T.ok_ob ?_ (fun _ => ?_) | with_reducible refine T.ok_ite (fun _ => ?_) (fun _ => ?_) | with_reducible refine T.ok_leaf ?_)
    all_goals (try simp only [decide_eq_true_eq, decide_eq_false_iff_not, Bool.not_eq_true', Bool.not_eq_false', Bool.not_eq_eq_eq_not, Bool.not_true, Bool.not_false, Int.toNat_natCast, tab_len, List.length_append, List.length_singleton, List.length_cons, List.length_nil, List.length_drop, List.length_take, getD_drop', getD_nat, reduceCtorEq] at *)
    all_goals (try simp (disch := omega) only [wrap64_id] at *)
    all_goals first | omega | (exfalso; omega) | exact True.intro | skip
    all_goals rfl
theorem rotF_ok (m : Nat) : ∀ (fu i j : Nat) (l : List Nat), i + j ≤ fu → 1 ≤ i → 1 ≤ j → i ≤ m → m + j ≤ l.length →
    swpR (rotF fu m i j l).1 (m - (rotF fu m i j l).2) m (rotF fu m i j l).2 = rotM l (m - i) m (m + j) ∧ 1 ≤ (rotF fu m i j l).2 ∧ (rotF fu m i j l).2 ≤ i ∧ (rotF fu m i j l).2 ≤ j ∧ (rotF fu m i j l).1.length = l.length
  | 0, i, j, l, h, h1, h2, _, _ => by omega
  | fu + 1, i, j, l, h, h1, h2, h3, h4 => by
    unfold rotF
    by_cases c1 : i = j
    · subst c1
      rw [if_pos rfl]
      refine ⟨?_, h1, Nat.le_refl _, Nat.le_refl _, rfl⟩
      have := rot_eq (l := l) (s := m - i) (m := m) (e := m + i) (by omega) (by omega) (by omega) h4
      rw [show m - (m - i) = i by omega] at this
      exact this
    · rw [if_neg c1]
      by_cases c2 : j < i
      · rw [if_pos c2]
        obtain ⟨r1, r2, r3, r4, r5⟩ := rotF_ok m fu (i - j) j (swpR l (m - i) m j) (by omega) (by omega) h2 (by omega) (by rw [swpR_len]; exact h4)
        refine ⟨?_, r2, by omega, r4, by rw [r5, swpR_len]⟩
        rw [r1]
        have := rot_gt (l := l) (s := m - i) (m := m) (e := m + j) (by omega) (by omega) h4
        rw [show m + j - m = j by omega, show m - i + j = m - (i - j) by omega] at this
        exact this
      · rw [if_neg c2]
        obtain ⟨r1, r2, r3, r4, r5⟩ := rotF_ok m fu i (j - i) (swpR l (m - i) (m + j - i) i) (by omega) h1 (by omega) h3 (by rw [swpR_len]; omega)
        refine ⟨?_, r2, r3, by omega, by rw [r5, swpR_len]⟩
        rw [r1]
        have := rot_lt (l := l) (s := m - i) (m := m) (e := m + j) (by omega) (by omega) h4
        rw [show m - (m - i) = i by omega] at this
        rw [show m + (j - i) = m + j - i by omega]
        exact this
theorem k_slices_rotateCmpFunc_float32_ {P : Program} {f g1 : FuncId} (h : Is_slices_rotateCmpFunc_float32_ P f g1) (c1 : C_slices_swapRangeCmpFunc_float32_ P g1) : C_slices_rotateCmpFunc_float32_ P f := by
  intro xs a m b F zs g hz hab hx
  obtain ⟨a, rfl⟩ : ∃ a' : Nat, a = a' := ⟨a.toNat, by omega⟩
  obtain ⟨m, rfl⟩ : ∃ m' : Nat, m = m' := ⟨m.toNat, by omega⟩
  obtain ⟨b, rfl⟩ : ∃ b' : Nat, b = b' := ⟨b.toNat, by omega⟩
  have e1 : ((b : Int) - a).toNat = b - a := by omega
  have e2 : ((m : Int) - a).toNat = m - a := by omega
  have e3 : ((b : Int) - m).toNat = b - m := by omega
  rw [e1, e2, e3, Int.toNat_natCast] at hz
  obtain ⟨r1, r2, r3, r4, r5⟩ := rotF_ok m (b - a) (m - a) (b - m) xs (by omega) (by omega) (by omega) (by omega) (by omega)
  rw [hz] at r1 r2 r3 r4 r5
  rw [show m - (m - a) = a by omega, show m + (b - m) = b by omega] at r1
  simp only at r1 r2 r3 r4 r5
  have loop : ∀ (fu i j : Nat) (l : List Nat), i + j ≤ fu → 1 ≤ i → 1 ≤ j → i ≤ m → m + j ≤ l.length → l.length = xs.length → Exec (VCall P) ps_slices_rotateCmpFunc_float32_ (.loop (b_slices_rotateCmpFunc_float32__L0 g1))
      (h_slices_rotateCmpFunc_float32__L0 xs a m b F zs g l i j) (.exit 0) (h_slices_rotateCmpFunc_float32__L0 xs a m b F zs g (rotF fu m i j l).1 (rotF fu m i j l).2 (rotF fu m i j l).2) := by
    intro fu
    induction fu with
    | zero => intro i j l h; omega
    | succ fu ih =>
      intro i j l hf h1 h2 h3 h4 h5
      have ei : IntKind.wrap .i64 ((m : Int) - i) = (m - i : Nat) := by rw [wrap64_id (by omega) (by omega)]; omega
      by_cases q1 : i = j
      · subst q1
        have e : rotF (fu + 1) m i i l = (l, i) := by rw [rotF, if_pos rfl]
        rw [e]
        refine Exec.loopX (q_slices_rotateCmpFunc_float32__L0 _ _ _ _ _ _ _ _ _ _ ?_) (by simp)
        rw [show ((i : Int) != (i : Int)) = false by simp]
        repeat' (first | with_reducible refine T.ok_ob ?_ (fun _ => ?_) | with_reducible refine T.ok_ite (fun _ => ?_) (fun _ => ?_) | with_reducible refine T.ok_leaf ?_)
        all_goals (try simp only [decide_eq_true_eq, decide_eq_false_iff_not, Bool.not_eq_true', Bool.not_eq_false', Bool.not_eq_eq_eq_not, Bool.not_true, Bool.not_false, Int.toNat_natCast, tab_len, List.length_append, List.length_singleton, List.length_cons, List.length_nil, List.length_drop, List.length_take, getD_drop', getD_nat, reduceCtorEq] at *)
        all_goals (try simp (disch := omega) only [wrap64_id] at *)
        all_goals first | omega | (exfalso; omega) | exact True.intro | skip
        all_goals rfl
      · have hne : ((i : Int) != (j : Int)) = true := by simp; omega
        by_cases q2 : j < i
        · have e : rotF (fu + 1) m i j l = rotF fu m (i - j) j (swpR l (m - i) m j) := by rw [rotF, if_neg q1, if_pos q2]
          rw [e]
          refine Exec.loopN (q_slices_rotateCmpFunc_float32__L0 _ _ _ _ _ _ _ _ _ _ ?_) (ih (i - j) j (swpR l (m - i) m j) (by omega) (by omega) h2 (by omega) (by rw [swpR_len]; exact h4) (by rw [swpR_len]; exact h5))
          have ej : IntKind.wrap .i64 ((i : Int) - j) = (i - j : Nat) := by rw [wrap64_id (by omega) (by omega)]; omega
          have cc := c1 l (m - i : Nat) m j F (by omega) (by omega)
          simp only [Int.toNat_natCast] at cc
          rw [ei, ej, hne]
          simp only [Int.toNat_natCast]
          have sl := swpR_len l (m - i) m j
          repeat' (first | with_reducible refine T.ok_ob ?_ (fun _ => ?_) | with_reducible refine T.ok_ite (fun _ => ?_) (fun _ => ?_) | with_reducible refine T.ok_leaf ?_)
          all_goals (try simp only [decide_eq_true_eq, decide_eq_false_iff_not, Bool.not_eq_true', Bool.not_eq_false', Bool.not_eq_eq_eq_not, Bool.not_true, Bool.not_false, Int.toNat_natCast, tab_len, List.length_append, List.length_singleton, List.length_cons, List.length_nil, List.length_drop, List.length_take, getD_drop', getD_nat, reduceCtorEq] at *)
          all_goals (try simp (disch := omega) only [wrap64_id] at *)
          all_goals first | omega | (exfalso; omega) | exact True.intro | skip
          all_goals first | exact ⟨cc, sl.symm, sl.symm, trivial⟩ | rfl
        · have e : rotF (fu + 1) m i j l = rotF fu m i (j - i) (swpR l (m - i) (m + j - i) i) := by rw [rotF, if_neg q1, if_neg q2]
          rw [e]
          refine Exec.loopN (q_slices_rotateCmpFunc_float32__L0 _ _ _ _ _ _ _ _ _ _ ?_) (ih i (j - i) (swpR l (m - i) (m + j - i) i) (by omega) h1 (by omega) h3 (by rw [swpR_len]; omega) (by rw [swpR_len]; exact h5))
          have ej : IntKind.wrap .i64 ((j : Int) - i) = (j - i : Nat) := by rw [wrap64_id (by omega) (by omega)]; omega
          have ek : IntKind.wrap .i64 (IntKind.wrap .i64 ((m : Int) + j) - i) = (m + j - i : Nat) := by rw [wrap64_id (n := (m : Int) + j) (by omega) (by omega), wrap64_id (by omega) (by omega)]; omega
          have cc := c1 l (m - i : Nat) (m + j - i : Nat) i F (by omega) (by omega)
          simp only [Int.toNat_natCast] at cc
          rw [ei, ej, ek, hne]
          simp only [Int.toNat_natCast]
          have sl := swpR_len l (m - i) (m + j - i) i
          repeat' (first | with_reducible refine T.ok_ob ?_ (fun _ => ?_) | with_reducible refine T.ok_ite (fun _ => ?_) (fun _ => ?_) | with_reducible refine T.ok_leaf ?_)
          all_goals (try simp only [decide_eq_true_eq, decide_eq_false_iff_not, Bool.not_eq_true', Bool.not_eq_false', Bool.not_eq_eq_eq_not, Bool.not_true, Bool.not_false, Int.toNat_natCast, tab_len, List.length_append, List.length_singleton, List.length_cons, List.length_nil, List.length_drop, List.length_take, getD_drop', getD_nat, reduceCtorEq] at *)
          all_goals (try simp (disch := omega) only [wrap64_id] at *)
          all_goals first | omega | (exfalso; omega) | exact True.intro | skip
          all_goals first | exact ⟨cc, sl.symm, sl.symm, trivial⟩ | rfl
  have ea : IntKind.wrap .i64 ((m : Int) - a) = (m - a : Nat) := by rw [wrap64_id (by omega) (by omega)]; omega
  have eb : IntKind.wrap .i64 ((b : Int) - m) = (b - m : Nat) := by rw [wrap64_id (by omega) (by omega)]; omega
  have eg : IntKind.wrap .i64 ((m : Int) - g) = (m - g : Nat) := by rw [wrap64_id (by omega) (by omega)]; omega
  have main := block_of (loop (b - a) (m - a) (b - m) xs (by omega) (by omega) (by omega) (by omega) (by omega) rfl)
  rw [hz] at main
  have cc := c1 zs (m - g : Nat) m g F (by omega) (by omega)
  simp only [Int.toNat_natCast] at cc
  have sl := swpR_len zs (m - g) m g
  have rl := rot_len xs a m b
  refine q_slices_rotateCmpFunc_float32_ h xs a m b F zs g ?_
  rw [ea, eb, eg]
  simp only [Int.toNat_natCast]
  rw [r1] at cc sl ⊢
  repeat' (first | with_reducible refine T.ok_ob ?_ (fun _ => ?_) | with_reducible refine T.ok_ite (fun _ => ?_) (fun _ => ?_) | with_reducible refine T.ok_leaf ?_)
  all_goals (try simp only [decide_eq_true_eq, decide_eq_false_iff_not, Bool.not_eq_true', Bool.not_eq_false', Bool.not_eq_eq_eq_not, Bool.not_true, Bool.not_false, Int.toNat_natCast, tab_len, List.length_append, List.length_singleton, List.length_cons, List.length_nil, List.length_drop, List.length_take, getD_drop', getD_nat, reduceCtorEq] at *)
  all_goals (try simp (disch := omega) only [wrap64_id] at *)
  all_goals first | omega | (exfalso; omega) | exact True.intro | skip
  all_goals first | exact main | exact ⟨cc, sl.symm, sl.symm, trivial⟩ | exact ⟨rl.symm, trivial⟩ | rfl

end Go.Proofs.LV
