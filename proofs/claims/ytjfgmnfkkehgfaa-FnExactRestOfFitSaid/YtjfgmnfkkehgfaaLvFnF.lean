/- Sums, means, products, places, moving means, lines, folded periods. -/
import Derived.Test.YtjfgmnfkkehgfaaLvFnDX
namespace Go.Proofs.LV
open Go
set_option linter.unusedVariables false
set_option linter.unusedSimpArgs false

def sumM (xs : List Nat) : Nat := accN (fun i s => fadd .f32 s (xs.getD i 0)) xs.length 0
def meanM (xs : List Nat) : Nat := fdiv .f32 (sumM xs) (fofi .f32 xs.length)
def dotM (xs ys : List Nat) : Nat := accN (fun i s => fadd .f32 s (fmul .f32 (xs.getD i 0) (ys.getD i 0))) xs.length 0
def lessM (xs ys : List Nat) : List Nat := tab xs.length fun i => fsub .f32 (xs.getD i 0) (ys.getD i 0)
def lessOneM (xs : List Nat) (m : Nat) : List Nat := tab xs.length fun i => fsub .f32 (xs.getD i 0) m
def placesM (n : Nat) : List Nat := tab n fun i => fofi .f32 i
def winM (xs : List Nat) (side i : Nat) : List Nat := (xs.drop (i - side)).take (min xs.length (i + side + 1) - (i - side))
def movM (g : List Nat → Nat) (xs : List Nat) (side : Nat) : List Nat := tab xs.length fun i => g (winM xs side i)






-- FN impl_dot
/-- impl.dot: slots 25, results [.t 4]; calls []; names [(a, 0), (b, 1), (a, 2), (b, 3), (sum, 5), (i, 6), (x, 7)] -/
def ps_impl_dot : List Nat := [0, 1, 4, 5, 6, 7, 8, 9, 10, 11]
def lv_impl_dot_L0 : List Nat := [1, 5, 8, 9, 10]
def b_impl_dot_L0 : VCode :=
  (.seq
   (.region false [
    ⟨some 11, (.bin .lss), [.t 10, .t 9], none⟩])
   (.seq
    (.cond (.t 11)
     .skip
     (.exit 0))
    (.seq
     (.block 1
      (.seq
       (.region false [
        ⟨some 12, .mv, [.t 10], none⟩,
        ⟨some 13, .iaddr, [.t 8, .t 10], none⟩,
        ⟨some 14, .load, [.t 13], none⟩,
        ⟨some 6, .mv, [.t 12], none⟩,
        ⟨some 7, .mv, [.t 14], none⟩])
       (.region false [
        ⟨some 15, .mv, [.t 5], none⟩,
        ⟨some 16, .mv, [.t 7], none⟩,
        ⟨some 17, .mv, [.t 1], none⟩,
        ⟨some 18, .mv, [.t 6], none⟩,
        ⟨some 19, .iaddr, [.t 17, .t 18], none⟩,
        ⟨some 20, .load, [.t 19], none⟩,
        ⟨some 21, (.bin .mul), [.t 16, .t 20], none⟩,
        ⟨some 22, (.bin .add), [.t 15, .t 21], none⟩,
        ⟨some 5, .mv, [.t 22], none⟩])))
     (.region false [
      ⟨some 23, (.bin .add), [.t 10, .k (.i .i64 1)], none⟩,
      ⟨some 10, .mv, [.t 23], none⟩]))))

def b_impl_dot : VCode :=
  (.seq
   (.region false [
    ⟨some 4, .mv, [.k (.f .f32 0)], none⟩])
   (.seq
    (.region false [
     ⟨some 5, .mv, [.k (.f .f32 0)], none⟩])
    (.seq
     (.seq
      (.region false [
       ⟨some 8, .mv, [.t 0], none⟩,
       ⟨some 9, .len, [.t 8], none⟩,
       ⟨some 10, .mv, [.k (.i .i64 0)], none⟩])
      (.block 0 (.loop b_impl_dot_L0)))
     (.seq
      (.region false [
       ⟨some 24, .mv, [.t 5], none⟩,
       ⟨some 4, .mv, [.t 24], none⟩])
      .ret))))

abbrev Is_impl_dot (P : Program) (g_f : FuncId) : Prop := FnIs P g_f 25 [.t 4] (b_impl_dot)

abbrev C_impl_dot (P : Program) (g_f : FuncId) : Prop := ∀ (xs : List Nat) (ys : List Nat) (hy : xs.length ≤ ys.length) (hx : xs.length ≤ maxLen), VCall P g_f [PS [0] .f32 xs, PS [1] .f32 ys] (.f .f32 (dotM xs ys))
def oc1_impl_dot (as : List AV) : T AV := match as with | [.sl _ _ (.f .f32 xs), .sl _ _ (.f .f32 ys)] => .leaf (.f .f32 (dotM xs ys)) | _ => .fail
def h_impl_dot_L0 (xs : List Nat) (ys : List Nat) (sum : Nat) (v10 : Int) : Env := [.any, AV.sl (Tag.par [1]) 0 (Cont.f FloatKind.f32 ys), .any, .any, .any, .f FloatKind.f32 sum, .any, .any, AV.sl (Tag.par [0]) 0 (Cont.f FloatKind.f32 xs), AV.i IntKind.i64 (↑(List.length xs) : Int), .i IntKind.i64 v10] ++ anys 14

theorem q_impl_dot_L0 {VC : FuncId → List AV → AV → Prop} (xs : List Nat) (ys : List Nat) (sum : Nat) (v10 : Int) {e_ : Ex} {σ_ : Env} (ht : T.ok (fun x_ => x_ = (e_, σ_)) (
      T.ite (decide (v10 < (↑(List.length xs) : Int)))
        (T.ob (0 ≤ v10 ∧ v10 < (↑(List.length xs) : Int))
          (T.ob (0 ≤ v10 ∧ v10 < (↑(List.length ys) : Int))
            (T.leaf (Ex.normal, h_impl_dot_L0 xs ys (fadd FloatKind.f32 sum (fmul FloatKind.f32 (List.getD xs (Int.toNat v10) 0) (List.getD ys (Int.toNat v10) 0))) (IntKind.wrap IntKind.i64 (v10 + 1))))))
        (T.leaf (Ex.exit 0, h_impl_dot_L0 xs ys sum v10)))) :
    Exec VC ps_impl_dot (b_impl_dot_L0) (h_impl_dot_L0 xs ys sum v10) e_ σ_ := evL_of (lv := lv_impl_dot_L0) (rs := [4]) (O := ⟨fun _ _ => .fail, fun _ _ => none⟩) (by kernel_rfl) ht

theorem q_impl_dot {P : Program} {g_f : FuncId} (h_ : Is_impl_dot P g_f) (xs : List Nat) (ys : List Nat) (ht : T.ok (fun x_ => x_ = .f .f32 (dotM xs ys)) (
      T.ob (Exec (VCall P) ps_impl_dot (VCode.block 0 (VCode.loop b_impl_dot_L0)) (h_impl_dot_L0 xs ys 0 0) Ex.normal (h_impl_dot_L0 xs ys (dotM xs ys) (↑(List.length xs) : Int))) (T.leaf (AV.f FloatKind.f32 (dotM xs ys))))) :
    VCall P g_f [PS [0] .f32 xs, PS [1] .f32 ys] (.f .f32 (dotM xs ys)) := h_.call_of ps_impl_dot ⟨fun _ _ => .fail, fun id σ => match id with | 0 => some (lv_impl_dot_L0, .leaf (.normal, h_impl_dot_L0 xs ys (dotM xs ys) xs.length)) | _ => none⟩ (by kernel_rfl) ht

-- END impl_dot







def mmOk (g : List Nat → Nat) (xs : List Nat) (side : Int) : Bool := seriesM xs && (inM side 0 96 && finAllM (movM g xs side.toNat))




def lfMid (xs : List Nat) : Nat := meanM (placesM xs.length)
def lfU (xs : List Nat) : List Nat := lessOneM (placesM xs.length) (lfMid xs)
def lfSlope (xs : List Nat) : Nat := fdiv .f32 (dotM (lfU xs) (lessOneM xs (meanM xs))) (dotM (lfU xs) (lfU xs))
def lfBase (xs : List Nat) : Nat := fsub .f32 (meanM xs) (fmul .f32 (lfSlope xs) (lfMid xs))
def lfOk (xs : List Nat) : Bool := seriesM xs && (decide (2 ≤ xs.length) && (finM (lfBase xs) && finM (lfSlope xs)))

def two1 (x y : Nat) : Nat := if (finM x && finM y) = true then x else 0
def two2 (x y : Nat) : Nat := if (finM x && finM y) = true then y else 0


theorem k_impl_dot {P : Program} {f : FuncId} (h : Is_impl_dot P f) : C_impl_dot P f := by
  intro xs ys hy hx
  refine q_impl_dot h xs ys ?_
  have hm := ml64 hx
  refine ⟨?_, fun _ => rfl⟩
  refine for_up (e := .exit 0) (xs.length) (fun i => h_impl_dot_L0 xs ys (accN (fun i s => fadd .f32 s (fmul .f32 (xs.getD i 0) (ys.getD i 0))) i 0) i) (by first | rfl | simp) (fun i hi => ?_) ?_
  · refine q_impl_dot_L0 _ _ _ _ ?_
    repeat' (first | with_reducible refine T.ok_ob ?_ (fun _ => ?_) | with_reducible refine T.ok_ite (fun _ => ?_) (fun _ => ?_) | with_reducible refine T.ok_leaf ?_)
    all_goals (try simp only [decide_eq_true_eq, decide_eq_false_iff_not, Bool.not_eq_true', Bool.not_eq_false', Bool.not_eq_eq_eq_not, Bool.not_true, Bool.not_false, Int.toNat_natCast, tab_len, List.length_append, List.length_singleton, List.length_cons, List.length_nil, List.length_drop, List.length_take, getD_drop', getD_nat, reduceCtorEq] at *)
    all_goals (try simp (disch := omega) only [wrap64_id] at *)
    all_goals first | omega | (exfalso; omega) | trivial | contradiction | (exfalso; simp_all; done) | skip
    all_goals first | rfl | (rw [tab_succ]; rfl)
  · refine q_impl_dot_L0 _ _ _ _ ?_
    repeat' (first | with_reducible refine T.ok_ob ?_ (fun _ => ?_) | with_reducible refine T.ok_ite (fun _ => ?_) (fun _ => ?_) | with_reducible refine T.ok_leaf ?_)
    all_goals (try simp only [decide_eq_true_eq, decide_eq_false_iff_not, Bool.not_eq_true', Bool.not_eq_false', Bool.not_eq_eq_eq_not, Bool.not_true, Bool.not_false, Int.toNat_natCast, tab_len, List.length_append, List.length_singleton, List.length_cons, List.length_nil, List.length_drop, List.length_take, getD_drop', getD_nat, reduceCtorEq] at *)
    all_goals (try simp (disch := omega) only [wrap64_id] at *)
    all_goals first | omega | (exfalso; omega) | trivial | contradiction | (exfalso; simp_all; done) | skip
    all_goals rfl
  repeat' (first | with_reducible refine T.ok_ob ?_ (fun _ => ?_) | with_reducible refine T.ok_ite (fun _ => ?_) (fun _ => ?_) | with_reducible refine T.ok_leaf ?_)
  all_goals first | with_reducible rfl | with_reducible assumption | contradiction | exact fconvOk_32_64 _ | assumption | exact rfl | (simp_all []; done) | (simp_all [T.ok]; omega)

theorem win_low (i s : Nat) (hi : i ≤ 96) (hs : s ≤ 96) : (bif decide (IntKind.wrap .i64 ((i : Int) - s) > 0) then IntKind.wrap .i64 ((i : Int) - s) else 0) = ((i - s : Nat) : Int) := by
  rw [wrap64_id (by omega) (by omega)]
  by_cases h : (i : Int) - s > 0
  · simp only [h, decide_true, cond_true]; omega
  · simp only [h, decide_false, cond_false]; omega
theorem win_high (n i s : Nat) (hn : n ≤ 96) (hi : i ≤ 96) (hs : s ≤ 96) : (bif decide (IntKind.wrap .i64 (IntKind.wrap .i64 ((i : Int) + s) + 1) < (n : Int)) then IntKind.wrap .i64 (IntKind.wrap .i64 ((i : Int) + s) + 1) else (n : Int)) = ((min n (i + s + 1) : Nat) : Int) := by
  rw [wrap64_id (n := (i : Int) + s) (by omega) (by omega), wrap64_id (by omega) (by omega)]
  by_cases h : (i : Int) + s + 1 < n
  · simp only [h, decide_true, cond_true]; omega
  · simp only [h, decide_false, cond_false]; omega
theorem win_high2 (n i s : Nat) (h1 : 1 ≤ n) (hn : n ≤ 96) (hi : i ≤ 96) (hs : s ≤ 96) : IntKind.wrap .i64 ((bif decide (IntKind.wrap .i64 ((i : Int) + s) < IntKind.wrap .i64 ((n : Int) - 1)) then IntKind.wrap .i64 ((i : Int) + s) else IntKind.wrap .i64 ((n : Int) - 1)) + 1) = ((min n (i + s + 1) : Nat) : Int) := by
  rw [wrap64_id (n := (i : Int) + s) (by omega) (by omega), wrap64_id (n := (n : Int) - 1) (by omega) (by omega)]
  by_cases h : (i : Int) + s < n - 1
  · simp only [h, decide_true, cond_true]; rw [wrap64_id (by omega) (by omega)]; omega
  · simp only [h, decide_false, cond_false]; rw [wrap64_id (by omega) (by omega)]; omega
theorem win_len (xs : List Nat) (s i : Nat) (h : i < xs.length) : 1 ≤ (winM xs s i).length ∧ (winM xs s i).length ≤ xs.length := by
  unfold winM; rw [List.length_take, List.length_drop]; omega
theorem nan_zero : nanB .f32 0 = false := by decide
theorem win_all {Q : Nat → Prop} {xs : List Nat} (hN : ∀ i, Q (xs.getD i 0)) (s i j : Nat) : Q ((winM xs s i).getD j 0) := by
  unfold winM
  by_cases h : j < min xs.length (i + s + 1) - (i - s)
  · rw [getD_sub _ _ _ _ _ h]; exact hN _
  · rw [show (List.take (min xs.length (i + s + 1) - (i - s)) (List.drop (i - s) xs)).getD j 0 = 0 by
      simp only [List.getD]
      rw [List.getElem?_eq_none (by rw [List.length_take]; omega)]; rfl]
    have h0 := hN xs.length
    rw [List.getD_eq_getElem?_getD, List.getElem?_eq_none (Nat.le_refl _)] at h0
    exact h0
theorem win_nan {xs : List Nat} (hN : ∀ i, nanB .f32 (xs.getD i 0) = false) (s i j : Nat) : nanB .f32 ((winM xs s i).getD j 0) = false := win_all (Q := fun x => nanB .f32 x = false) hN s i j
theorem fin_nan0 {x : Nat} (h : finM x = true) : nanB .f32 x = false := by
  cases hr : Ieee.single.read x with
  | nan s t =>
    exfalso
    have e : fsub .f32 x x = fnan .f32 := by
      unfold fsub Ieee.Format.sub
      show (Option.map _ ((Ieee.single.read x).sum (Ieee.single.read x).opposite)).getD _ = _
      rw [hr]; rfl
    unfold finM at h
    rw [e] at h
    revert h; decide
  | infinity s => show (Ieee.single.read x).isNaN = false; rw [hr]; rfl
  | number s m e => show (Ieee.single.read x).isNaN = false; rw [hr]; rfl
theorem series_nan {xs : List Nat} (h : seriesM xs = true) (i : Nat) : nanB .f32 (xs.getD i 0) = false := by
  simp [seriesM, finAllM] at h
  by_cases hi : i < xs.length
  · refine fin_nan0 ?_
    have := h.2.2 xs[i] (List.getElem_mem hi)
    simpa [List.getD, List.getElem?_eq_getElem hi] using this
  · rw [show xs.getD i 0 = 0 by simp [List.getD, List.getElem?_eq_none (Nat.le_of_not_lt hi)]]
    exact nan_zero
theorem mov_len (g : List Nat → Nat) (xs : List Nat) (s : Nat) : (movM g xs s).length = xs.length := tab_len _ _
theorem places_len (n : Nat) : (placesM n).length = n := tab_len _ _
theorem lessOne_len (xs : List Nat) (m : Nat) : (lessOneM xs m).length = xs.length := tab_len _ _
theorem less_len (xs ys : List Nat) : (lessM xs ys).length = xs.length := tab_len _ _
theorem lessOne_get (xs : List Nat) (m i : Nat) (h : i < xs.length) : (lessOneM xs m).getD i 0 = fsub .f32 (xs.getD i 0) m := tab_get _ _ _ _ h
theorem less_get (xs ys : List Nat) (i : Nat) (h : i < xs.length) : (lessM xs ys).getD i 0 = fsub .f32 (xs.getD i 0) (ys.getD i 0) := tab_get _ _ _ _ h
end Go.Proofs.LV
