/- Pairs that go together, waves of steps led back. -/
import Derived.Test.YtdffgjembkanoaaLvFnB
namespace Go.Proofs.LV
open Go
set_option linter.unusedVariables false
set_option linter.unusedSimpArgs false

/-- the sum of the first n -/
def sumN : Nat → (Nat → Int) → Int
  | 0, _ => 0
  | n + 1, f => sumN n f + f n
def signM (x y : Nat) : Int := if flt .f32 x y = true then -1 else if fgt .f32 x y = true then 1 else 0
def pairM (xs ys : List Nat) (k i : Nat) : Int := signM (xs.getD k 0) (xs.getD i 0) * signM (ys.getD k 0) (ys.getD i 0)
def pairsM (xs ys : List Nat) : Int := sumN xs.length fun k => sumN k fun i => pairM xs ys k i

theorem sumN_bound {f : Nat → Int} {B : Int} (hB : 0 ≤ B) (n : Nat) (h : ∀ i, i < n → -B ≤ f i ∧ f i ≤ B) : -(B * n) ≤ sumN n f ∧ sumN n f ≤ B * n := by
  induction n with
  | zero => simp [sumN]
  | succ n ih =>
    have := ih (fun i hi => h i (by omega))
    have := h n (by omega)
    simp only [sumN]
    rw [Int.natCast_succ, Int.mul_add]
    omega
theorem sumN_congr {f g : Nat → Int} (n : Nat) (h : ∀ i, i < n → f i = g i) : sumN n f = sumN n g := by
  induction n with
  | zero => rfl
  | succ n ih => simp only [sumN, ih (fun i hi => h i (by omega)), h n (by omega)]
theorem sumN_add (f g : Nat → Int) (n : Nat) : (sumN n fun i => f i + g i) = sumN n f + sumN n g := by
  induction n with
  | zero => rfl
  | succ n ih => simp only [sumN, ih]; omega
/-- the sums over a triangle, by rows and by columns -/
theorem triangle (t : Nat → Nat → Int) (n : Nat) : (sumN n fun k => sumN k fun i => t k i) = sumN n fun i => sumN (n - (i + 1)) fun j => t (i + 1 + j) i := by
  induction n with
  | zero => rfl
  | succ n ih =>
    have e : (sumN n fun i => sumN (n + 1 - (i + 1)) fun j => t (i + 1 + j) i) = (sumN n fun i => sumN (n - (i + 1)) fun j => t (i + 1 + j) i) + sumN n fun i => t n i := by
      rw [← sumN_add]
      refine sumN_congr n fun i hi => ?_
      rw [show n + 1 - (i + 1) = (n - (i + 1)) + 1 by omega]
      simp only [sumN]
      rw [show i + 1 + (n - (i + 1)) = n by omega]
    show (sumN n fun k => sumN k fun i => t k i) + (sumN n fun i => t n i) = (sumN n fun i => sumN (n + 1 - (i + 1)) fun j => t (i + 1 + j) i) + sumN (n + 1 - (n + 1)) fun j => t (n + 1 + j) n
    rw [e, ih, Nat.sub_self]
    simp only [sumN]; omega
theorem sign_bound (x y : Nat) : signM x y = -1 ∨ signM x y = 0 ∨ signM x y = 1 := by
  unfold signM; split
  · simp
  · split <;> simp
theorem pair_bound (xs ys : List Nat) (k i : Nat) : -1 ≤ pairM xs ys k i ∧ pairM xs ys k i ≤ 1 := by
  unfold pairM
  rcases sign_bound (xs.getD k 0) (xs.getD i 0) with h | h | h <;> rcases sign_bound (ys.getD k 0) (ys.getD i 0) with h' | h' | h' <;> rw [h, h'] <;> decide
theorem row_bound (xs ys : List Nat) (k n : Nat) : -(n : Int) ≤ sumN n (fun i => pairM xs ys k i) ∧ sumN n (fun i => pairM xs ys k i) ≤ n := by
  have := sumN_bound (B := 1) (f := fun i => pairM xs ys k i) (by omega) n (fun i _ => pair_bound xs ys k i)
  omega
theorem rows_bound (xs ys : List Nat) (k : Nat) (hk : k ≤ 96) : -9216 ≤ (sumN k fun k => sumN k fun i => pairM xs ys k i) ∧ (sumN k fun k => sumN k fun i => pairM xs ys k i) ≤ 9216 := by
  have := sumN_bound (B := 96) (f := fun k => sumN k fun i => pairM xs ys k i) (by omega) k (fun i hi => by have := row_bound xs ys i i; omega)
  omega
theorem series_len {xs : List Nat} (h : seriesM xs = true) : 1 ≤ xs.length ∧ xs.length ≤ 96 := by
  simp only [seriesM, Bool.and_eq_true, decide_eq_true_eq] at h
  omega
theorem two_len {xs ys : List Nat} (h : twoM xs ys = true) : 1 ≤ xs.length ∧ xs.length ≤ 96 ∧ ys.length = xs.length := by
  simp only [twoM, Bool.and_eq_true, beq_iff_eq] at h
  have := series_len h.1.1
  omega

-- FN impl_sign
/-- impl.sign: slots 13, results [.t 4]; calls []; names [(x, 0), (y, 1), (x, 2), (y, 3)] -/
def ps_impl_sign : List Nat := [0, 1, 4, 5, 9]
def b_impl_sign : VCode :=
  (.seq
   (.region false [
    ⟨some 4, .mv, [.k (.i .i64 0)], none⟩])
   (.seq
    (.block 0
     (.seq
      (.region false [
       ⟨some 6, .mv, [.t 0], none⟩,
       ⟨some 7, .mv, [.t 1], none⟩,
       ⟨some 8, (.bin .lss), [.t 6, .t 7], none⟩,
       ⟨some 5, .mv, [.t 8], none⟩])
      (.cond (.t 5)
       (.seq
        (.region false [
         ⟨some 4, .mv, [.k (.i .i64 (-1))], none⟩])
        .ret)
       (.seq
        (.region false [
         ⟨some 10, .mv, [.t 0], none⟩,
         ⟨some 11, .mv, [.t 1], none⟩,
         ⟨some 12, (.bin .gtr), [.t 10, .t 11], none⟩,
         ⟨some 9, .mv, [.t 12], none⟩])
        (.cond (.t 9)
         (.seq
          (.region false [
           ⟨some 4, .mv, [.k (.i .i64 1)], none⟩])
          .ret)
         .skip)))))
    (.seq
     (.region false [
      ⟨some 4, .mv, [.k (.i .i64 0)], none⟩])
     .ret)))

abbrev Is_impl_sign (P : Program) (g_f : FuncId) : Prop := FnIs P g_f 13 [.t 4] (b_impl_sign)

abbrev C_impl_sign (P : Program) (g_f : FuncId) : Prop := ∀ (x : Nat) (y : Nat), VCall P g_f [.f .f32 x, .f .f32 y] (.i .i64 (signM x y))
def oc1_impl_sign (as : List AV) : T AV := match as with | [.f .f32 x, .f .f32 y] => .leaf (.i .i64 (signM x y)) | _ => .fail



theorem q_impl_sign {P : Program} {g_f : FuncId} (h_ : Is_impl_sign P g_f) (x : Nat) (y : Nat) (ht : T.ok (fun x_ => x_ = .i .i64 (signM x y)) (
      T.ite (flt FloatKind.f32 x y) (T.leaf (AV.i IntKind.i64 (-1))) (T.ite (fgt FloatKind.f32 x y) (T.leaf (AV.i IntKind.i64 1)) (T.leaf (AV.i IntKind.i64 0))))) :
    VCall P g_f [.f .f32 x, .f .f32 y] (.i .i64 (signM x y)) := h_.call_of ps_impl_sign ⟨fun _ _ => .fail, fun _ _ => none⟩ (by kernel_rfl) ht

-- END impl_sign

theorem k_impl_sign {P : Program} {f : FuncId} (h : Is_impl_sign P f) : C_impl_sign P f := by
  intro x y
  refine q_impl_sign h x y ?_
  repeat' (first | with_reducible refine T.ok_ob ?_ (fun _ => ?_) | with_reducible refine T.ok_ite (fun _ => ?_) (fun _ => ?_) | with_reducible refine T.ok_leaf ?_)
  all_goals (simp [signM, *])

-- FN impl_PairCount
/-- impl.PairCount: slots 46, results [.t 4, .t 5]; calls [11:g_impl_areTwo, 31:g_impl_sign, 40:g_impl_sign]; names [(a, 0), (b, 1), (a, 2), (b, 3), (sum, 6), (k, 7), (i, 8)] -/
def ps_impl_PairCount : List Nat := [0, 1, 4, 5, 6, 7, 8, 12, 14, 15, 16, 18, 19, 20]
def lv_impl_PairCount_L0 : List Nat := [0, 1, 6, 14, 15]
def lv_impl_PairCount_L2 : List Nat := [0, 1, 6, 7, 14, 15, 18, 19]
def b_impl_PairCount_L2 (g_impl_areTwo g_impl_sign : FuncId) : VCode :=
  (.seq
   (.region false [
    ⟨some 20, (.bin .lss), [.t 19, .t 18], none⟩])
   (.seq
    (.cond (.t 20)
     .skip
     (.exit 2))
    (.seq
     (.block 3
      (.seq
       (.region false [
        ⟨some 21, .mv, [.t 19], none⟩,
        ⟨some 8, .mv, [.t 21], none⟩])
       (.region true [
        ⟨some 22, .mv, [.t 6], none⟩,
        ⟨some 23, .mv, [.t 0], none⟩,
        ⟨some 24, .mv, [.t 7], none⟩,
        ⟨some 25, .iaddr, [.t 23, .t 24], none⟩,
        ⟨some 26, .load, [.t 25], none⟩,
        ⟨some 27, .mv, [.t 0], none⟩,
        ⟨some 28, .mv, [.t 8], none⟩,
        ⟨some 29, .iaddr, [.t 27, .t 28], none⟩,
        ⟨some 30, .load, [.t 29], none⟩,
        ⟨some 31, (.call g_impl_sign), [.t 26, .t 30], none⟩,
        ⟨some 32, .mv, [.t 1], none⟩,
        ⟨some 33, .mv, [.t 7], none⟩,
        ⟨some 34, .iaddr, [.t 32, .t 33], none⟩,
        ⟨some 35, .load, [.t 34], none⟩,
        ⟨some 36, .mv, [.t 1], none⟩,
        ⟨some 37, .mv, [.t 8], none⟩,
        ⟨some 38, .iaddr, [.t 36, .t 37], none⟩,
        ⟨some 39, .load, [.t 38], none⟩,
        ⟨some 40, (.call g_impl_sign), [.t 35, .t 39], none⟩,
        ⟨some 41, (.bin .mul), [.t 31, .t 40], none⟩,
        ⟨some 42, (.bin .add), [.t 22, .t 41], none⟩,
        ⟨some 6, .mv, [.t 42], none⟩])))
     (.region false [
      ⟨some 43, (.bin .add), [.t 19, .k (.i .i64 1)], none⟩,
      ⟨some 19, .mv, [.t 43], none⟩]))))

def b_impl_PairCount_L0 (g_impl_areTwo g_impl_sign : FuncId) : VCode :=
  (.seq
   (.region false [
    ⟨some 16, (.bin .lss), [.t 15, .t 14], none⟩])
   (.seq
    (.cond (.t 16)
     .skip
     (.exit 0))
    (.seq
     (.block 1
      (.seq
       (.region false [
        ⟨some 17, .mv, [.t 15], none⟩,
        ⟨some 7, .mv, [.t 17], none⟩])
       (.seq
        (.region false [
         ⟨some 18, .mv, [.t 7], none⟩,
         ⟨some 19, .mv, [.k (.i .i64 0)], none⟩])
        (.block 2 (.loop (b_impl_PairCount_L2 g_impl_areTwo g_impl_sign))))))
     (.region false [
      ⟨some 44, (.bin .add), [.t 15, .k (.i .i64 1)], none⟩,
      ⟨some 15, .mv, [.t 44], none⟩]))))

def b_impl_PairCount (g_impl_areTwo g_impl_sign : FuncId) : VCode :=
  (.seq
   (.region false [
    ⟨some 4, .mv, [.k (.i .i64 0)], none⟩,
    ⟨some 5, .mv, [.k (.b false)], none⟩])
   (.seq
    (.seq
     (.region false [
      ⟨some 9, .mv, [.t 0], none⟩,
      ⟨some 10, .mv, [.t 1], none⟩,
      ⟨some 11, (.call g_impl_areTwo), [.t 9, .t 10], none⟩,
      ⟨some 12, .not, [.t 11], none⟩])
     (.cond (.t 12)
      (.seq
       (.region false [
        ⟨some 4, .mv, [.k (.i .i64 0)], none⟩,
        ⟨some 5, .mv, [.k (.b false)], none⟩])
       .ret)
      .skip))
    (.seq
     (.region false [
      ⟨some 6, .mv, [.k (.i .i64 0)], none⟩])
     (.seq
      (.seq
       (.region false [
        ⟨some 13, .mv, [.t 0], none⟩,
        ⟨some 14, .len, [.t 13], none⟩,
        ⟨some 15, .mv, [.k (.i .i64 0)], none⟩])
       (.block 0 (.loop (b_impl_PairCount_L0 g_impl_areTwo g_impl_sign))))
      (.seq
       (.region false [
        ⟨some 45, .mv, [.t 6], none⟩,
        ⟨some 4, .mv, [.t 45], none⟩,
        ⟨some 5, .mv, [.k (.b true)], none⟩])
       .ret)))))

abbrev Is_impl_PairCount (P : Program) (g_f : FuncId) (g_impl_areTwo g_impl_sign : FuncId) : Prop := FnIs P g_f 46 [.t 4, .t 5] (b_impl_PairCount g_impl_areTwo g_impl_sign)

abbrev C_impl_PairCount (P : Program) (g_f : FuncId) : Prop := ∀ (xs : List Nat) (ys : List Nat) (hx : xs.length ≤ maxLen) (hy : ys.length ≤ maxLen), VCall P g_f [PS [0] .f32 xs, PS [1] .f32 ys] (.tup [.i .i64 (if twoM xs ys = true then pairsM xs ys else 0), .b (twoM xs ys)])
def oc1_impl_PairCount (as : List AV) : T AV := match as with | [.sl _ _ (.f .f32 xs), .sl _ _ (.f .f32 ys)] => .leaf (.tup [.i .i64 (if twoM xs ys = true then pairsM xs ys else 0), .b (twoM xs ys)]) | _ => .fail
def oc_impl_PairCount (xs : List Nat) (ys : List Nat) (d : Nat) (as : List AV) : T AV := match d with | 11 => oc1_impl_areTwo as | 31 => oc1_impl_sign as | 40 => oc1_impl_sign as | _ => .fail
def h_impl_PairCount_L0 (xs : List Nat) (ys : List Nat) (sum : Int) (v15 : Int) : Env := [AV.sl (Tag.par [0]) 0 (Cont.f FloatKind.f32 xs), AV.sl (Tag.par [1]) 0 (Cont.f FloatKind.f32 ys)] ++ anys 4 ++ [.i IntKind.i64 sum] ++ anys 7 ++ [AV.i IntKind.i64 (↑(List.length xs) : Int), .i IntKind.i64 v15] ++ anys 30
def h_impl_PairCount_L2 (xs : List Nat) (ys : List Nat) (sum : Int) (v15 : Int) (sum2 : Int) (v19 : Int) : Env := [AV.sl (Tag.par [0]) 0 (Cont.f FloatKind.f32 xs), AV.sl (Tag.par [1]) 0 (Cont.f FloatKind.f32 ys)] ++ anys 4 ++ [.i IntKind.i64 sum2, AV.i IntKind.i64 v15] ++ anys 6 ++ [AV.i IntKind.i64 (↑(List.length xs) : Int), AV.i IntKind.i64 v15, .any, .any, AV.i IntKind.i64 v15, .i IntKind.i64 v19] ++ anys 26

theorem q_impl_PairCount_L0 {VC : FuncId → List AV → AV → Prop} {g_impl_areTwo g_impl_sign : FuncId} (xs : List Nat) (ys : List Nat) (sum : Int) (v15 : Int) {e_ : Ex} {σ_ : Env} (ht : T.ok (fun x_ => x_ = (e_, σ_)) (
      T.ite (decide (v15 < (↑(List.length xs) : Int)))
        (T.ob
          (Exec VC ps_impl_PairCount (VCode.block 2 (VCode.loop (b_impl_PairCount_L2 g_impl_areTwo g_impl_sign))) (h_impl_PairCount_L2 xs ys sum v15 sum 0) Ex.normal
            (h_impl_PairCount_L2 xs ys sum v15 (sum + sumN (Int.toNat v15) fun (i : Nat) => pairM xs ys (Int.toNat v15) i) v15))
          (T.leaf (Ex.normal, h_impl_PairCount_L0 xs ys (sum + sumN (Int.toNat v15) fun (i : Nat) => pairM xs ys (Int.toNat v15) i) (IntKind.wrap IntKind.i64 (v15 + 1)))))
        (T.leaf (Ex.exit 0, h_impl_PairCount_L0 xs ys sum v15)))) :
    Exec VC ps_impl_PairCount (b_impl_PairCount_L0 g_impl_areTwo g_impl_sign) (h_impl_PairCount_L0 xs ys sum v15) e_ σ_ := evL_of (lv := lv_impl_PairCount_L0) (rs := [4, 5]) (O := ⟨oc_impl_PairCount xs ys, fun id σ => match id with | 2 => some (lv_impl_PairCount_L2, .leaf (.normal, h_impl_PairCount_L2 xs ys sum v15 (sum + sumN v15.toNat (fun i => pairM xs ys v15.toNat i)) v15)) | _ => none⟩) (by kernel_rfl) ht

theorem q_impl_PairCount_L2 {VC : FuncId → List AV → AV → Prop} {g_impl_areTwo g_impl_sign : FuncId} (xs : List Nat) (ys : List Nat) (sum : Int) (v15 : Int) (sum2 : Int) (v19 : Int) {e_ : Ex} {σ_ : Env} (ht : T.ok (fun x_ => x_ = (e_, σ_)) (
      T.ite (decide (v19 < v15))
        (T.ob (0 ≤ v15 ∧ v15 < (↑(List.length xs) : Int))
          (T.ob (0 ≤ v19 ∧ v19 < (↑(List.length xs) : Int))
            (T.ob
              (VC g_impl_sign [AV.f FloatKind.f32 (List.getD xs (Int.toNat v15) 0), AV.f FloatKind.f32 (List.getD xs (Int.toNat v19) 0)]
                (AV.i IntKind.i64 (signM (List.getD xs (Int.toNat v15) 0) (List.getD xs (Int.toNat v19) 0))))
              (T.ob (0 ≤ v15 ∧ v15 < (↑(List.length ys) : Int))
                (T.ob (0 ≤ v19 ∧ v19 < (↑(List.length ys) : Int))
                  (T.ob
                    (VC g_impl_sign [AV.f FloatKind.f32 (List.getD ys (Int.toNat v15) 0), AV.f FloatKind.f32 (List.getD ys (Int.toNat v19) 0)]
                      (AV.i IntKind.i64 (signM (List.getD ys (Int.toNat v15) 0) (List.getD ys (Int.toNat v19) 0))))
                    (T.leaf
                      (Ex.normal,
                        h_impl_PairCount_L2 xs ys sum v15
                          (IntKind.wrap IntKind.i64
                            (sum2 + IntKind.wrap IntKind.i64 (signM (List.getD xs (Int.toNat v15) 0) (List.getD xs (Int.toNat v19) 0) * signM (List.getD ys (Int.toNat v15) 0) (List.getD ys (Int.toNat v19) 0))))
                          (IntKind.wrap IntKind.i64 (v19 + 1))))))))))
        (T.leaf (Ex.exit 2, h_impl_PairCount_L2 xs ys sum v15 sum2 v19)))) :
    Exec VC ps_impl_PairCount (b_impl_PairCount_L2 g_impl_areTwo g_impl_sign) (h_impl_PairCount_L2 xs ys sum v15 sum2 v19) e_ σ_ := evL_of (lv := lv_impl_PairCount_L2) (rs := [4, 5]) (O := ⟨oc_impl_PairCount xs ys, fun _ _ => none⟩) (by kernel_rfl) ht

theorem q_impl_PairCount {P : Program} {g_f : FuncId} {g_impl_areTwo g_impl_sign : FuncId} (h_ : Is_impl_PairCount P g_f g_impl_areTwo g_impl_sign) (xs : List Nat) (ys : List Nat) (ht : T.ok (fun x_ => x_ = .tup [.i .i64 (if twoM xs ys = true then pairsM xs ys else 0), .b (twoM xs ys)]) (
      T.ob ((VCall P) g_impl_areTwo [AV.sl (Tag.par [0]) 0 (Cont.f FloatKind.f32 xs), AV.sl (Tag.par [1]) 0 (Cont.f FloatKind.f32 ys)] (AV.b (twoM xs ys)))
        (T.ite (!twoM xs ys) (T.leaf (AV.tup [AV.i IntKind.i64 0, AV.b false]))
          (T.ob
            (Exec (VCall P) ps_impl_PairCount (VCode.block 0 (VCode.loop (b_impl_PairCount_L0 g_impl_areTwo g_impl_sign))) (h_impl_PairCount_L0 xs ys 0 0) Ex.normal
              (h_impl_PairCount_L0 xs ys (pairsM xs ys) (↑(List.length xs) : Int)))
            (T.leaf (AV.tup [AV.i IntKind.i64 (pairsM xs ys), AV.b true])))))) :
    VCall P g_f [PS [0] .f32 xs, PS [1] .f32 ys] (.tup [.i .i64 (if twoM xs ys = true then pairsM xs ys else 0), .b (twoM xs ys)]) := h_.call_of ps_impl_PairCount ⟨oc_impl_PairCount xs ys, fun id σ => match id with | 0 => some (lv_impl_PairCount_L0, .leaf (.normal, h_impl_PairCount_L0 xs ys (pairsM xs ys) xs.length)) | _ => none⟩ (by kernel_rfl) ht

-- END impl_PairCount

theorem k_impl_PairCount {P : Program} {f g1 g2 : FuncId} (h : Is_impl_PairCount P f g1 g2) (hg1 : C_impl_areTwo P g1) (hg2 : C_impl_sign P g2) : C_impl_PairCount P f := by
  intro xs ys hx hy
  refine q_impl_PairCount h xs ys ⟨hg1 _ _ hx hy, fun _ => ⟨fun h0 => ?_, fun h0 => ?_⟩⟩
  · simp at h0; simp [T.ok, h0]
  · simp at h0
    have hl := two_len h0
    refine ⟨?_, fun _ => by simp [T.ok, h0]⟩
    refine for_up (e := .exit 0) xs.length (fun i => h_impl_PairCount_L0 xs ys (sumN i fun k => sumN k fun i => pairM xs ys k i) i) rfl (fun k hk => ?_) ?_
    · refine q_impl_PairCount_L0 _ _ _ _ ⟨fun _ => ⟨?_, fun _ => ?_⟩, fun h => absurd (of_decide_eq_false h) (by omega)⟩
      · have hb := rows_bound xs ys k (by omega)
        refine for_up (e := .exit 2) k (fun i => h_impl_PairCount_L2 xs ys (sumN k fun k => sumN k fun i => pairM xs ys k i) k ((sumN k fun k => sumN k fun i => pairM xs ys k i) + sumN i (fun i => pairM xs ys k i)) i) (by simp [sumN]) (fun i hi => ?_) ?_
        · refine q_impl_PairCount_L2 _ _ _ _ _ _ ⟨fun _ => ⟨by omega, fun _ => ⟨by omega, fun _ => ⟨hg2 _ _, fun _ => ⟨by omega, fun _ => ⟨by omega, fun _ => ⟨hg2 _ _, fun _ => ?_⟩⟩⟩⟩⟩⟩, fun h => absurd (of_decide_eq_false h) (by omega)⟩
          show _ = _
          have hp := pair_bound xs ys k i
          have hr := row_bound xs ys k i
          have he : signM (xs.getD k 0) (xs.getD i 0) * signM (ys.getD k 0) (ys.getD i 0) = pairM xs ys k i := rfl
          simp only [getD_nat, he]
          generalize pairM xs ys k i = p at *
          rw [wrap64_id (n := p) (by omega) (by omega), wrap64_id (by omega) (by omega), wrap64_id (by omega) (by omega)]
          simp only [sumN, Int.add_assoc]
          rw [show pairM xs ys k i = p from he]; rfl
        · refine q_impl_PairCount_L2 _ _ _ _ _ _ ⟨fun h => absurd h (by simp), fun _ => ?_⟩
          simp [T.ok]
      · show _ = _
        rw [wrap64_id (by omega) (by omega)]
        simp only [sumN, Int.toNat_natCast]; rfl
    · refine q_impl_PairCount_L0 _ _ _ _ ⟨fun h => absurd h (by simp), fun _ => ?_⟩
      simp [T.ok, pairsM]

-- FN spec_PairCount
/-- spec.PairCount: slots 104, results [.t 4, .t 5]; calls [13:g_spec_l03Pair]; names [(a, 0), (b, 1), (a, 2), (b, 3), (n, 6), (i, 7), (k, 8), (up, 9), (down, 10)] -/
def ps_spec_PairCount : List Nat := [0, 1, 4, 5, 6, 7, 8, 9, 10, 14, 16, 17, 18, 25, 71, 99]
def lv_spec_PairCount_L0 : List Nat := [0, 1, 6, 16, 17]
def lv_spec_PairCount_L2 : List Nat := [0, 1, 6, 7, 8, 16, 17]
def b_spec_PairCount_L2 (g_spec_l03Pair : FuncId) : VCode :=
  (.seq
   (.seq
    (.region false [
     ⟨some 22, .mv, [.t 8], none⟩,
     ⟨some 23, .mv, [.t 0], none⟩,
     ⟨some 24, .len, [.t 23], none⟩,
     ⟨some 25, (.bin .lss), [.t 22, .t 24], none⟩])
    (.cond (.t 25)
     .skip
     (.exit 2)))
   (.seq
    (.block 3
     (.seq
      (.region true [
       ⟨some 28, .mv, [.t 0], none⟩,
       ⟨some 29, .mv, [.t 8], none⟩,
       ⟨some 30, .iaddr, [.t 28, .t 29], none⟩,
       ⟨some 31, .load, [.t 30], none⟩,
       ⟨some 32, .mv, [.t 0], none⟩,
       ⟨some 33, .mv, [.t 7], none⟩,
       ⟨some 34, .iaddr, [.t 32, .t 33], none⟩,
       ⟨some 35, .load, [.t 34], none⟩,
       ⟨some 36, (.bin .gtr), [.t 31, .t 35], none⟩,
       ⟨some 9, .mv, [.t 36], none⟩])
      (.seq
       (.region true [
        ⟨some 37, .mv, [.t 0], none⟩,
        ⟨some 38, .mv, [.t 8], none⟩,
        ⟨some 39, .iaddr, [.t 37, .t 38], none⟩,
        ⟨some 40, .load, [.t 39], none⟩,
        ⟨some 41, .mv, [.t 0], none⟩,
        ⟨some 42, .mv, [.t 7], none⟩,
        ⟨some 43, .iaddr, [.t 41, .t 42], none⟩,
        ⟨some 44, .load, [.t 43], none⟩,
        ⟨some 45, (.bin .lss), [.t 40, .t 44], none⟩,
        ⟨some 10, .mv, [.t 45], none⟩])
       (.seq
        (.seq
         (.region true [
          ⟨some 46, .mv, [.t 9], none⟩,
          ⟨some 47, .mv, [.t 46], none⟩,
          ⟨some 48, .mv, [.t 1], some (47, true)⟩,
          ⟨some 49, .mv, [.t 8], some (47, true)⟩,
          ⟨some 50, .iaddr, [.t 48, .t 49], some (47, true)⟩,
          ⟨some 51, .load, [.t 50], some (47, true)⟩,
          ⟨some 52, .mv, [.t 1], some (47, true)⟩,
          ⟨some 53, .mv, [.t 7], some (47, true)⟩,
          ⟨some 54, .iaddr, [.t 52, .t 53], some (47, true)⟩,
          ⟨some 55, .load, [.t 54], some (47, true)⟩,
          ⟨some 56, (.bin .gtr), [.t 51, .t 55], some (47, true)⟩,
          ⟨some 57, .pick, [.t 47, .t 56, .k (.b false)], none⟩,
          ⟨some 58, .mv, [.t 57], none⟩,
          ⟨some 59, .mv, [.t 10], some (58, false)⟩,
          ⟨some 60, .mv, [.t 59], some (58, false)⟩,
          ⟨some 61, .mv, [.t 1], some (60, true)⟩,
          ⟨some 62, .mv, [.t 8], some (60, true)⟩,
          ⟨some 63, .iaddr, [.t 61, .t 62], some (60, true)⟩,
          ⟨some 64, .load, [.t 63], some (60, true)⟩,
          ⟨some 65, .mv, [.t 1], some (60, true)⟩,
          ⟨some 66, .mv, [.t 7], some (60, true)⟩,
          ⟨some 67, .iaddr, [.t 65, .t 66], some (60, true)⟩,
          ⟨some 68, .load, [.t 67], some (60, true)⟩,
          ⟨some 69, (.bin .lss), [.t 64, .t 68], some (60, true)⟩,
          ⟨some 70, .pick, [.t 60, .t 69, .k (.b false)], some (58, false)⟩,
          ⟨some 71, .pick, [.t 58, .k (.b true), .t 70], none⟩])
         (.cond (.t 71)
          (.region false [
           ⟨some 72, .mv, [.t 6], none⟩,
           ⟨some 73, (.bin .add), [.t 72, .k (.i .i64 1)], none⟩,
           ⟨some 6, .mv, [.t 73], none⟩])
          .skip))
        (.seq
         (.region true [
          ⟨some 74, .mv, [.t 9], none⟩,
          ⟨some 75, .mv, [.t 74], none⟩,
          ⟨some 76, .mv, [.t 1], some (75, true)⟩,
          ⟨some 77, .mv, [.t 8], some (75, true)⟩,
          ⟨some 78, .iaddr, [.t 76, .t 77], some (75, true)⟩,
          ⟨some 79, .load, [.t 78], some (75, true)⟩,
          ⟨some 80, .mv, [.t 1], some (75, true)⟩,
          ⟨some 81, .mv, [.t 7], some (75, true)⟩,
          ⟨some 82, .iaddr, [.t 80, .t 81], some (75, true)⟩,
          ⟨some 83, .load, [.t 82], some (75, true)⟩,
          ⟨some 84, (.bin .lss), [.t 79, .t 83], some (75, true)⟩,
          ⟨some 85, .pick, [.t 75, .t 84, .k (.b false)], none⟩,
          ⟨some 86, .mv, [.t 85], none⟩,
          ⟨some 87, .mv, [.t 10], some (86, false)⟩,
          ⟨some 88, .mv, [.t 87], some (86, false)⟩,
          ⟨some 89, .mv, [.t 1], some (88, true)⟩,
          ⟨some 90, .mv, [.t 8], some (88, true)⟩,
          ⟨some 91, .iaddr, [.t 89, .t 90], some (88, true)⟩,
          ⟨some 92, .load, [.t 91], some (88, true)⟩,
          ⟨some 93, .mv, [.t 1], some (88, true)⟩,
          ⟨some 94, .mv, [.t 7], some (88, true)⟩,
          ⟨some 95, .iaddr, [.t 93, .t 94], some (88, true)⟩,
          ⟨some 96, .load, [.t 95], some (88, true)⟩,
          ⟨some 97, (.bin .gtr), [.t 92, .t 96], some (88, true)⟩,
          ⟨some 98, .pick, [.t 88, .t 97, .k (.b false)], some (86, false)⟩,
          ⟨some 99, .pick, [.t 86, .k (.b true), .t 98], none⟩])
         (.cond (.t 99)
          (.region false [
           ⟨some 100, .mv, [.t 6], none⟩,
           ⟨some 101, (.bin .sub), [.t 100, .k (.i .i64 1)], none⟩,
           ⟨some 6, .mv, [.t 101], none⟩])
          .skip))))))
    (.region false [
     ⟨some 26, .mv, [.t 8], none⟩,
     ⟨some 27, (.bin .add), [.t 26, .k (.i .i64 1)], none⟩,
     ⟨some 8, .mv, [.t 27], none⟩])))

def b_spec_PairCount_L0 (g_spec_l03Pair : FuncId) : VCode :=
  (.seq
   (.region false [
    ⟨some 18, (.bin .lss), [.t 17, .t 16], none⟩])
   (.seq
    (.cond (.t 18)
     .skip
     (.exit 0))
    (.seq
     (.block 1
      (.seq
       (.region false [
        ⟨some 19, .mv, [.t 17], none⟩,
        ⟨some 7, .mv, [.t 19], none⟩])
       (.seq
        (.region false [
         ⟨some 20, .mv, [.t 7], none⟩,
         ⟨some 21, (.bin .add), [.t 20, .k (.i .i64 1)], none⟩,
         ⟨some 8, .mv, [.t 21], none⟩])
        (.block 2 (.loop (b_spec_PairCount_L2 g_spec_l03Pair))))))
     (.region false [
      ⟨some 102, (.bin .add), [.t 17, .k (.i .i64 1)], none⟩,
      ⟨some 17, .mv, [.t 102], none⟩]))))

def b_spec_PairCount (g_spec_l03Pair : FuncId) : VCode :=
  (.seq
   (.region false [
    ⟨some 4, .mv, [.k (.i .i64 0)], none⟩,
    ⟨some 5, .mv, [.k (.b false)], none⟩])
   (.seq
    (.seq
     (.region false [
      ⟨some 11, .mv, [.t 0], none⟩,
      ⟨some 12, .mv, [.t 1], none⟩,
      ⟨some 13, (.call g_spec_l03Pair), [.t 11, .t 12], none⟩,
      ⟨some 14, .not, [.t 13], none⟩])
     (.cond (.t 14)
      (.seq
       (.region false [
        ⟨some 4, .mv, [.k (.i .i64 0)], none⟩,
        ⟨some 5, .mv, [.k (.b false)], none⟩])
       .ret)
      .skip))
    (.seq
     (.region false [
      ⟨some 6, .mv, [.k (.i .i64 0)], none⟩])
     (.seq
      (.seq
       (.region false [
        ⟨some 15, .mv, [.t 0], none⟩,
        ⟨some 16, .len, [.t 15], none⟩,
        ⟨some 17, .mv, [.k (.i .i64 0)], none⟩])
       (.block 0 (.loop (b_spec_PairCount_L0 g_spec_l03Pair))))
      (.seq
       (.region false [
        ⟨some 103, .mv, [.t 6], none⟩,
        ⟨some 4, .mv, [.t 103], none⟩,
        ⟨some 5, .mv, [.k (.b true)], none⟩])
       .ret)))))

abbrev Is_spec_PairCount (P : Program) (g_f : FuncId) (g_spec_l03Pair : FuncId) : Prop := FnIs P g_f 104 [.t 4, .t 5] (b_spec_PairCount g_spec_l03Pair)

abbrev C_spec_PairCount (P : Program) (g_f : FuncId) : Prop := ∀ (xs : List Nat) (ys : List Nat) (hx : xs.length ≤ maxLen) (hy : ys.length ≤ maxLen), VCall P g_f [PS [0] .f32 xs, PS [1] .f32 ys] (.tup [.i .i64 (if twoM xs ys = true then pairsM xs ys else 0), .b (twoM xs ys)])
def oc1_spec_PairCount (as : List AV) : T AV := match as with | [.sl _ _ (.f .f32 xs), .sl _ _ (.f .f32 ys)] => .leaf (.tup [.i .i64 (if twoM xs ys = true then pairsM xs ys else 0), .b (twoM xs ys)]) | _ => .fail
def oc_spec_PairCount (xs : List Nat) (ys : List Nat) (d : Nat) (as : List AV) : T AV := match d with | 13 => oc1_spec_l03Pair as | _ => .fail
def h_spec_PairCount_L0 (xs : List Nat) (ys : List Nat) (n : Int) (v17 : Int) : Env := [AV.sl (Tag.par [0]) 0 (Cont.f FloatKind.f32 xs), AV.sl (Tag.par [1]) 0 (Cont.f FloatKind.f32 ys)] ++ anys 4 ++ [.i IntKind.i64 n] ++ anys 9 ++ [AV.i IntKind.i64 (↑(List.length xs) : Int), .i IntKind.i64 v17] ++ anys 86
def h_spec_PairCount_L2 (xs : List Nat) (ys : List Nat) (n : Int) (v17 : Int) (n2 : Int) (k : Int) : Env := [AV.sl (Tag.par [0]) 0 (Cont.f FloatKind.f32 xs), AV.sl (Tag.par [1]) 0 (Cont.f FloatKind.f32 ys)] ++ anys 4 ++ [.i IntKind.i64 n2, AV.i IntKind.i64 v17, .i IntKind.i64 k] ++ anys 7 ++ [AV.i IntKind.i64 (↑(List.length xs) : Int), AV.i IntKind.i64 v17] ++ anys 86

theorem q_spec_PairCount_L0 {VC : FuncId → List AV → AV → Prop} {g_spec_l03Pair : FuncId} (xs : List Nat) (ys : List Nat) (n : Int) (v17 : Int) {e_ : Ex} {σ_ : Env} (ht : T.ok (fun x_ => x_ = (e_, σ_)) (
      T.ite (decide (v17 < (↑(List.length xs) : Int)))
        (T.ob
          (Exec VC ps_spec_PairCount (VCode.block 2 (VCode.loop (b_spec_PairCount_L2 g_spec_l03Pair))) (h_spec_PairCount_L2 xs ys n v17 n (IntKind.wrap IntKind.i64 (v17 + 1))) Ex.normal
            (h_spec_PairCount_L2 xs ys n v17 (n + sumN (List.length xs - (Int.toNat v17 + 1)) fun (j : Nat) => pairM xs ys (Int.toNat v17 + 1 + j) (Int.toNat v17)) (↑(List.length xs) : Int)))
          (T.leaf (Ex.normal, h_spec_PairCount_L0 xs ys (n + sumN (List.length xs - (Int.toNat v17 + 1)) fun (j : Nat) => pairM xs ys (Int.toNat v17 + 1 + j) (Int.toNat v17)) (IntKind.wrap IntKind.i64 (v17 + 1)))))
        (T.leaf (Ex.exit 0, h_spec_PairCount_L0 xs ys n v17)))) :
    Exec VC ps_spec_PairCount (b_spec_PairCount_L0 g_spec_l03Pair) (h_spec_PairCount_L0 xs ys n v17) e_ σ_ := evL_of (lv := lv_spec_PairCount_L0) (rs := [4, 5]) (O := ⟨oc_spec_PairCount xs ys, fun id σ => match id with | 2 => some (lv_spec_PairCount_L2, .leaf (.normal, h_spec_PairCount_L2 xs ys n v17 (n + sumN (xs.length - (v17.toNat + 1)) (fun j => pairM xs ys (v17.toNat + 1 + j) v17.toNat)) xs.length)) | _ => none⟩) (by kernel_rfl) ht

theorem q_spec_PairCount_L2 {VC : FuncId → List AV → AV → Prop} {g_spec_l03Pair : FuncId} (xs : List Nat) (ys : List Nat) (n : Int) (v17 : Int) (n2 : Int) (k : Int) {e_ : Ex} {σ_ : Env} (ht : T.ok (fun x_ => x_ = (e_, σ_)) (
      T.ite (decide (k < (↑(List.length xs) : Int)))
        (T.ob (0 ≤ k ∧ k < (↑(List.length xs) : Int))
          (T.ob (0 ≤ v17 ∧ v17 < (↑(List.length xs) : Int))
            (T.ob (0 ≤ k ∧ k < (↑(List.length xs) : Int))
              (T.ob (0 ≤ v17 ∧ v17 < (↑(List.length xs) : Int))
                (T.ite (fgt FloatKind.f32 (List.getD xs (Int.toNat k) 0) (List.getD xs (Int.toNat v17) 0))
                  (T.ob (0 ≤ k ∧ k < (↑(List.length ys) : Int))
                    (T.ob (0 ≤ v17 ∧ v17 < (↑(List.length ys) : Int))
                      (T.ite (fgt FloatKind.f32 (List.getD ys (Int.toNat k) 0) (List.getD ys (Int.toNat v17) 0))
                        (T.ite (fgt FloatKind.f32 (List.getD xs (Int.toNat k) 0) (List.getD xs (Int.toNat v17) 0))
                          (T.ob (0 ≤ k ∧ k < (↑(List.length ys) : Int))
                            (T.ob (0 ≤ v17 ∧ v17 < (↑(List.length ys) : Int))
                              (T.ite (flt FloatKind.f32 (List.getD ys (Int.toNat k) 0) (List.getD ys (Int.toNat v17) 0))
                                (T.leaf (Ex.normal, h_spec_PairCount_L2 xs ys n v17 (IntKind.wrap IntKind.i64 (IntKind.wrap IntKind.i64 (n2 + 1) - 1)) (IntKind.wrap IntKind.i64 (k + 1))))
                                (T.ite (flt FloatKind.f32 (List.getD xs (Int.toNat k) 0) (List.getD xs (Int.toNat v17) 0))
                                  (T.ob (0 ≤ k ∧ k < (↑(List.length ys) : Int))
                                    (T.ob (0 ≤ v17 ∧ v17 < (↑(List.length ys) : Int))
                                      (T.ite (fgt FloatKind.f32 (List.getD ys (Int.toNat k) 0) (List.getD ys (Int.toNat v17) 0))
                                        (T.leaf (Ex.normal, h_spec_PairCount_L2 xs ys n v17 (IntKind.wrap IntKind.i64 (IntKind.wrap IntKind.i64 (n2 + 1) - 1)) (IntKind.wrap IntKind.i64 (k + 1))))
                                        (T.leaf (Ex.normal, h_spec_PairCount_L2 xs ys n v17 (IntKind.wrap IntKind.i64 (n2 + 1)) (IntKind.wrap IntKind.i64 (k + 1)))))))
                                  (T.leaf (Ex.normal, h_spec_PairCount_L2 xs ys n v17 (IntKind.wrap IntKind.i64 (n2 + 1)) (IntKind.wrap IntKind.i64 (k + 1))))))))
                          (T.ite (flt FloatKind.f32 (List.getD xs (Int.toNat k) 0) (List.getD xs (Int.toNat v17) 0))
                            (T.ob (0 ≤ k ∧ k < (↑(List.length ys) : Int))
                              (T.ob (0 ≤ v17 ∧ v17 < (↑(List.length ys) : Int))
                                (T.ite (fgt FloatKind.f32 (List.getD ys (Int.toNat k) 0) (List.getD ys (Int.toNat v17) 0))
                                  (T.leaf (Ex.normal, h_spec_PairCount_L2 xs ys n v17 (IntKind.wrap IntKind.i64 (IntKind.wrap IntKind.i64 (n2 + 1) - 1)) (IntKind.wrap IntKind.i64 (k + 1))))
                                  (T.leaf (Ex.normal, h_spec_PairCount_L2 xs ys n v17 (IntKind.wrap IntKind.i64 (n2 + 1)) (IntKind.wrap IntKind.i64 (k + 1)))))))
                            (T.leaf (Ex.normal, h_spec_PairCount_L2 xs ys n v17 (IntKind.wrap IntKind.i64 (n2 + 1)) (IntKind.wrap IntKind.i64 (k + 1))))))
                        (T.ite (flt FloatKind.f32 (List.getD xs (Int.toNat k) 0) (List.getD xs (Int.toNat v17) 0))
                          (T.ob (0 ≤ k ∧ k < (↑(List.length ys) : Int))
                            (T.ob (0 ≤ v17 ∧ v17 < (↑(List.length ys) : Int))
                              (T.ite (flt FloatKind.f32 (List.getD ys (Int.toNat k) 0) (List.getD ys (Int.toNat v17) 0))
                                (T.ite (fgt FloatKind.f32 (List.getD xs (Int.toNat k) 0) (List.getD xs (Int.toNat v17) 0))
                                  (T.ob (0 ≤ k ∧ k < (↑(List.length ys) : Int))
                                    (T.ob (0 ≤ v17 ∧ v17 < (↑(List.length ys) : Int))
                                      (T.ite (flt FloatKind.f32 (List.getD ys (Int.toNat k) 0) (List.getD ys (Int.toNat v17) 0))
                                        (T.leaf (Ex.normal, h_spec_PairCount_L2 xs ys n v17 (IntKind.wrap IntKind.i64 (IntKind.wrap IntKind.i64 (n2 + 1) - 1)) (IntKind.wrap IntKind.i64 (k + 1))))
                                        (T.ite (flt FloatKind.f32 (List.getD xs (Int.toNat k) 0) (List.getD xs (Int.toNat v17) 0))
                                          (T.ob (0 ≤ k ∧ k < (↑(List.length ys) : Int))
                                            (T.ob (0 ≤ v17 ∧ v17 < (↑(List.length ys) : Int))
                                              (T.ite (fgt FloatKind.f32 (List.getD ys (Int.toNat k) 0) (List.getD ys (Int.toNat v17) 0))
                                                (T.leaf (Ex.normal, h_spec_PairCount_L2 xs ys n v17 (IntKind.wrap IntKind.i64 (IntKind.wrap IntKind.i64 (n2 + 1) - 1)) (IntKind.wrap IntKind.i64 (k + 1))))
                                                (T.leaf (Ex.normal, h_spec_PairCount_L2 xs ys n v17 (IntKind.wrap IntKind.i64 (n2 + 1)) (IntKind.wrap IntKind.i64 (k + 1)))))))
                                          (T.leaf (Ex.normal, h_spec_PairCount_L2 xs ys n v17 (IntKind.wrap IntKind.i64 (n2 + 1)) (IntKind.wrap IntKind.i64 (k + 1))))))))
                                  (T.ite (flt FloatKind.f32 (List.getD xs (Int.toNat k) 0) (List.getD xs (Int.toNat v17) 0))
                                    (T.ob (0 ≤ k ∧ k < (↑(List.length ys) : Int))
                                      (T.ob (0 ≤ v17 ∧ v17 < (↑(List.length ys) : Int))
                                        (T.ite (fgt FloatKind.f32 (List.getD ys (Int.toNat k) 0) (List.getD ys (Int.toNat v17) 0))
                                          (T.leaf (Ex.normal, h_spec_PairCount_L2 xs ys n v17 (IntKind.wrap IntKind.i64 (IntKind.wrap IntKind.i64 (n2 + 1) - 1)) (IntKind.wrap IntKind.i64 (k + 1))))
                                          (T.leaf (Ex.normal, h_spec_PairCount_L2 xs ys n v17 (IntKind.wrap IntKind.i64 (n2 + 1)) (IntKind.wrap IntKind.i64 (k + 1)))))))
                                    (T.leaf (Ex.normal, h_spec_PairCount_L2 xs ys n v17 (IntKind.wrap IntKind.i64 (n2 + 1)) (IntKind.wrap IntKind.i64 (k + 1))))))
                                (T.ite (fgt FloatKind.f32 (List.getD xs (Int.toNat k) 0) (List.getD xs (Int.toNat v17) 0))
                                  (T.ob (0 ≤ k ∧ k < (↑(List.length ys) : Int))
                                    (T.ob (0 ≤ v17 ∧ v17 < (↑(List.length ys) : Int))
                                      (T.ite (flt FloatKind.f32 (List.getD ys (Int.toNat k) 0) (List.getD ys (Int.toNat v17) 0))
                                        (T.leaf (Ex.normal, h_spec_PairCount_L2 xs ys n v17 (IntKind.wrap IntKind.i64 (n2 - 1)) (IntKind.wrap IntKind.i64 (k + 1))))
                                        (T.ite (flt FloatKind.f32 (List.getD xs (Int.toNat k) 0) (List.getD xs (Int.toNat v17) 0))
                                          (T.ob (0 ≤ k ∧ k < (↑(List.length ys) : Int))
                                            (T.ob (0 ≤ v17 ∧ v17 < (↑(List.length ys) : Int))
                                              (T.ite (fgt FloatKind.f32 (List.getD ys (Int.toNat k) 0) (List.getD ys (Int.toNat v17) 0))
                                                (T.leaf (Ex.normal, h_spec_PairCount_L2 xs ys n v17 (IntKind.wrap IntKind.i64 (n2 - 1)) (IntKind.wrap IntKind.i64 (k + 1))))
                                                (T.leaf (Ex.normal, h_spec_PairCount_L2 xs ys n v17 n2 (IntKind.wrap IntKind.i64 (k + 1)))))))
                                          (T.leaf (Ex.normal, h_spec_PairCount_L2 xs ys n v17 n2 (IntKind.wrap IntKind.i64 (k + 1))))))))
                                  (T.ite (flt FloatKind.f32 (List.getD xs (Int.toNat k) 0) (List.getD xs (Int.toNat v17) 0))
                                    (T.ob (0 ≤ k ∧ k < (↑(List.length ys) : Int))
                                      (T.ob (0 ≤ v17 ∧ v17 < (↑(List.length ys) : Int))
                                        (T.ite (fgt FloatKind.f32 (List.getD ys (Int.toNat k) 0) (List.getD ys (Int.toNat v17) 0))
                                          (T.leaf (Ex.normal, h_spec_PairCount_L2 xs ys n v17 (IntKind.wrap IntKind.i64 (n2 - 1)) (IntKind.wrap IntKind.i64 (k + 1))))
                                          (T.leaf (Ex.normal, h_spec_PairCount_L2 xs ys n v17 n2 (IntKind.wrap IntKind.i64 (k + 1)))))))
                                    (T.leaf (Ex.normal, h_spec_PairCount_L2 xs ys n v17 n2 (IntKind.wrap IntKind.i64 (k + 1)))))))))
                          (T.ite (fgt FloatKind.f32 (List.getD xs (Int.toNat k) 0) (List.getD xs (Int.toNat v17) 0))
                            (T.ob (0 ≤ k ∧ k < (↑(List.length ys) : Int))
                              (T.ob (0 ≤ v17 ∧ v17 < (↑(List.length ys) : Int))
                                (T.ite (flt FloatKind.f32 (List.getD ys (Int.toNat k) 0) (List.getD ys (Int.toNat v17) 0))
                                  (T.leaf (Ex.normal, h_spec_PairCount_L2 xs ys n v17 (IntKind.wrap IntKind.i64 (n2 - 1)) (IntKind.wrap IntKind.i64 (k + 1))))
                                  (T.ite (flt FloatKind.f32 (List.getD xs (Int.toNat k) 0) (List.getD xs (Int.toNat v17) 0))
                                    (T.ob (0 ≤ k ∧ k < (↑(List.length ys) : Int))
                                      (T.ob (0 ≤ v17 ∧ v17 < (↑(List.length ys) : Int))
                                        (T.ite (fgt FloatKind.f32 (List.getD ys (Int.toNat k) 0) (List.getD ys (Int.toNat v17) 0))
                                          (T.leaf (Ex.normal, h_spec_PairCount_L2 xs ys n v17 (IntKind.wrap IntKind.i64 (n2 - 1)) (IntKind.wrap IntKind.i64 (k + 1))))
                                          (T.leaf (Ex.normal, h_spec_PairCount_L2 xs ys n v17 n2 (IntKind.wrap IntKind.i64 (k + 1)))))))
                                    (T.leaf (Ex.normal, h_spec_PairCount_L2 xs ys n v17 n2 (IntKind.wrap IntKind.i64 (k + 1))))))))
                            (T.ite (flt FloatKind.f32 (List.getD xs (Int.toNat k) 0) (List.getD xs (Int.toNat v17) 0))
                              (T.ob (0 ≤ k ∧ k < (↑(List.length ys) : Int))
                                (T.ob (0 ≤ v17 ∧ v17 < (↑(List.length ys) : Int))
                                  (T.ite (fgt FloatKind.f32 (List.getD ys (Int.toNat k) 0) (List.getD ys (Int.toNat v17) 0))
                                    (T.leaf (Ex.normal, h_spec_PairCount_L2 xs ys n v17 (IntKind.wrap IntKind.i64 (n2 - 1)) (IntKind.wrap IntKind.i64 (k + 1))))
                                    (T.leaf (Ex.normal, h_spec_PairCount_L2 xs ys n v17 n2 (IntKind.wrap IntKind.i64 (k + 1)))))))
                              (T.leaf (Ex.normal, h_spec_PairCount_L2 xs ys n v17 n2 (IntKind.wrap IntKind.i64 (k + 1))))))))))
                  (T.ite (flt FloatKind.f32 (List.getD xs (Int.toNat k) 0) (List.getD xs (Int.toNat v17) 0))
                    (T.ob (0 ≤ k ∧ k < (↑(List.length ys) : Int))
                      (T.ob (0 ≤ v17 ∧ v17 < (↑(List.length ys) : Int))
                        (T.ite (flt FloatKind.f32 (List.getD ys (Int.toNat k) 0) (List.getD ys (Int.toNat v17) 0))
                          (T.ite (fgt FloatKind.f32 (List.getD xs (Int.toNat k) 0) (List.getD xs (Int.toNat v17) 0))
                            (T.ob (0 ≤ k ∧ k < (↑(List.length ys) : Int))
                              (T.ob (0 ≤ v17 ∧ v17 < (↑(List.length ys) : Int))
                                (T.ite (flt FloatKind.f32 (List.getD ys (Int.toNat k) 0) (List.getD ys (Int.toNat v17) 0))
                                  (T.leaf (Ex.normal, h_spec_PairCount_L2 xs ys n v17 (IntKind.wrap IntKind.i64 (IntKind.wrap IntKind.i64 (n2 + 1) - 1)) (IntKind.wrap IntKind.i64 (k + 1))))
                                  (T.ite (flt FloatKind.f32 (List.getD xs (Int.toNat k) 0) (List.getD xs (Int.toNat v17) 0))
                                    (T.ob (0 ≤ k ∧ k < (↑(List.length ys) : Int))
                                      (T.ob (0 ≤ v17 ∧ v17 < (↑(List.length ys) : Int))
                                        (T.ite (fgt FloatKind.f32 (List.getD ys (Int.toNat k) 0) (List.getD ys (Int.toNat v17) 0))
                                          (T.leaf (Ex.normal, h_spec_PairCount_L2 xs ys n v17 (IntKind.wrap IntKind.i64 (IntKind.wrap IntKind.i64 (n2 + 1) - 1)) (IntKind.wrap IntKind.i64 (k + 1))))
                                          (T.leaf (Ex.normal, h_spec_PairCount_L2 xs ys n v17 (IntKind.wrap IntKind.i64 (n2 + 1)) (IntKind.wrap IntKind.i64 (k + 1)))))))
                                    (T.leaf (Ex.normal, h_spec_PairCount_L2 xs ys n v17 (IntKind.wrap IntKind.i64 (n2 + 1)) (IntKind.wrap IntKind.i64 (k + 1))))))))
                            (T.ite (flt FloatKind.f32 (List.getD xs (Int.toNat k) 0) (List.getD xs (Int.toNat v17) 0))
                              (T.ob (0 ≤ k ∧ k < (↑(List.length ys) : Int))
                                (T.ob (0 ≤ v17 ∧ v17 < (↑(List.length ys) : Int))
                                  (T.ite (fgt FloatKind.f32 (List.getD ys (Int.toNat k) 0) (List.getD ys (Int.toNat v17) 0))
                                    (T.leaf (Ex.normal, h_spec_PairCount_L2 xs ys n v17 (IntKind.wrap IntKind.i64 (IntKind.wrap IntKind.i64 (n2 + 1) - 1)) (IntKind.wrap IntKind.i64 (k + 1))))
                                    (T.leaf (Ex.normal, h_spec_PairCount_L2 xs ys n v17 (IntKind.wrap IntKind.i64 (n2 + 1)) (IntKind.wrap IntKind.i64 (k + 1)))))))
                              (T.leaf (Ex.normal, h_spec_PairCount_L2 xs ys n v17 (IntKind.wrap IntKind.i64 (n2 + 1)) (IntKind.wrap IntKind.i64 (k + 1))))))
                          (T.ite (fgt FloatKind.f32 (List.getD xs (Int.toNat k) 0) (List.getD xs (Int.toNat v17) 0))
                            (T.ob (0 ≤ k ∧ k < (↑(List.length ys) : Int))
                              (T.ob (0 ≤ v17 ∧ v17 < (↑(List.length ys) : Int))
                                (T.ite (flt FloatKind.f32 (List.getD ys (Int.toNat k) 0) (List.getD ys (Int.toNat v17) 0))
                                  (T.leaf (Ex.normal, h_spec_PairCount_L2 xs ys n v17 (IntKind.wrap IntKind.i64 (n2 - 1)) (IntKind.wrap IntKind.i64 (k + 1))))
                                  (T.ite (flt FloatKind.f32 (List.getD xs (Int.toNat k) 0) (List.getD xs (Int.toNat v17) 0))
                                    (T.ob (0 ≤ k ∧ k < (↑(List.length ys) : Int))
                                      (T.ob (0 ≤ v17 ∧ v17 < (↑(List.length ys) : Int))
                                        (T.ite (fgt FloatKind.f32 (List.getD ys (Int.toNat k) 0) (List.getD ys (Int.toNat v17) 0))
                                          (T.leaf (Ex.normal, h_spec_PairCount_L2 xs ys n v17 (IntKind.wrap IntKind.i64 (n2 - 1)) (IntKind.wrap IntKind.i64 (k + 1))))
                                          (T.leaf (Ex.normal, h_spec_PairCount_L2 xs ys n v17 n2 (IntKind.wrap IntKind.i64 (k + 1)))))))
                                    (T.leaf (Ex.normal, h_spec_PairCount_L2 xs ys n v17 n2 (IntKind.wrap IntKind.i64 (k + 1))))))))
                            (T.ite (flt FloatKind.f32 (List.getD xs (Int.toNat k) 0) (List.getD xs (Int.toNat v17) 0))
                              (T.ob (0 ≤ k ∧ k < (↑(List.length ys) : Int))
                                (T.ob (0 ≤ v17 ∧ v17 < (↑(List.length ys) : Int))
                                  (T.ite (fgt FloatKind.f32 (List.getD ys (Int.toNat k) 0) (List.getD ys (Int.toNat v17) 0))
                                    (T.leaf (Ex.normal, h_spec_PairCount_L2 xs ys n v17 (IntKind.wrap IntKind.i64 (n2 - 1)) (IntKind.wrap IntKind.i64 (k + 1))))
                                    (T.leaf (Ex.normal, h_spec_PairCount_L2 xs ys n v17 n2 (IntKind.wrap IntKind.i64 (k + 1)))))))
                              (T.leaf (Ex.normal, h_spec_PairCount_L2 xs ys n v17 n2 (IntKind.wrap IntKind.i64 (k + 1)))))))))
                    (T.ite (fgt FloatKind.f32 (List.getD xs (Int.toNat k) 0) (List.getD xs (Int.toNat v17) 0))
                      (T.ob (0 ≤ k ∧ k < (↑(List.length ys) : Int))
                        (T.ob (0 ≤ v17 ∧ v17 < (↑(List.length ys) : Int))
                          (T.ite (flt FloatKind.f32 (List.getD ys (Int.toNat k) 0) (List.getD ys (Int.toNat v17) 0))
                            (T.leaf (Ex.normal, h_spec_PairCount_L2 xs ys n v17 (IntKind.wrap IntKind.i64 (n2 - 1)) (IntKind.wrap IntKind.i64 (k + 1))))
                            (T.ite (flt FloatKind.f32 (List.getD xs (Int.toNat k) 0) (List.getD xs (Int.toNat v17) 0))
                              (T.ob (0 ≤ k ∧ k < (↑(List.length ys) : Int))
                                (T.ob (0 ≤ v17 ∧ v17 < (↑(List.length ys) : Int))
                                  (T.ite (fgt FloatKind.f32 (List.getD ys (Int.toNat k) 0) (List.getD ys (Int.toNat v17) 0))
                                    (T.leaf (Ex.normal, h_spec_PairCount_L2 xs ys n v17 (IntKind.wrap IntKind.i64 (n2 - 1)) (IntKind.wrap IntKind.i64 (k + 1))))
                                    (T.leaf (Ex.normal, h_spec_PairCount_L2 xs ys n v17 n2 (IntKind.wrap IntKind.i64 (k + 1)))))))
                              (T.leaf (Ex.normal, h_spec_PairCount_L2 xs ys n v17 n2 (IntKind.wrap IntKind.i64 (k + 1))))))))
                      (T.ite (flt FloatKind.f32 (List.getD xs (Int.toNat k) 0) (List.getD xs (Int.toNat v17) 0))
                        (T.ob (0 ≤ k ∧ k < (↑(List.length ys) : Int))
                          (T.ob (0 ≤ v17 ∧ v17 < (↑(List.length ys) : Int))
                            (T.ite (fgt FloatKind.f32 (List.getD ys (Int.toNat k) 0) (List.getD ys (Int.toNat v17) 0))
                              (T.leaf (Ex.normal, h_spec_PairCount_L2 xs ys n v17 (IntKind.wrap IntKind.i64 (n2 - 1)) (IntKind.wrap IntKind.i64 (k + 1))))
                              (T.leaf (Ex.normal, h_spec_PairCount_L2 xs ys n v17 n2 (IntKind.wrap IntKind.i64 (k + 1)))))))
                        (T.leaf (Ex.normal, h_spec_PairCount_L2 xs ys n v17 n2 (IntKind.wrap IntKind.i64 (k + 1))))))))))))
        (T.leaf (Ex.exit 2, h_spec_PairCount_L2 xs ys n v17 n2 k)))) :
    Exec VC ps_spec_PairCount (b_spec_PairCount_L2 g_spec_l03Pair) (h_spec_PairCount_L2 xs ys n v17 n2 k) e_ σ_ := evL_of (lv := lv_spec_PairCount_L2) (rs := [4, 5]) (O := ⟨oc_spec_PairCount xs ys, fun _ _ => none⟩) (by kernel_rfl) ht

theorem q_spec_PairCount {P : Program} {g_f : FuncId} {g_spec_l03Pair : FuncId} (h_ : Is_spec_PairCount P g_f g_spec_l03Pair) (xs : List Nat) (ys : List Nat) (ht : T.ok (fun x_ => x_ = .tup [.i .i64 (if twoM xs ys = true then pairsM xs ys else 0), .b (twoM xs ys)]) (
      T.ob ((VCall P) g_spec_l03Pair [AV.sl (Tag.par [0]) 0 (Cont.f FloatKind.f32 xs), AV.sl (Tag.par [1]) 0 (Cont.f FloatKind.f32 ys)] (AV.b (twoM xs ys)))
        (T.ite (!twoM xs ys) (T.leaf (AV.tup [AV.i IntKind.i64 0, AV.b false]))
          (T.ob (Exec (VCall P) ps_spec_PairCount (VCode.block 0 (VCode.loop (b_spec_PairCount_L0 g_spec_l03Pair))) (h_spec_PairCount_L0 xs ys 0 0) Ex.normal (h_spec_PairCount_L0 xs ys (pairsM xs ys) (↑(List.length xs) : Int)))
            (T.leaf (AV.tup [AV.i IntKind.i64 (pairsM xs ys), AV.b true])))))) :
    VCall P g_f [PS [0] .f32 xs, PS [1] .f32 ys] (.tup [.i .i64 (if twoM xs ys = true then pairsM xs ys else 0), .b (twoM xs ys)]) := h_.call_of ps_spec_PairCount ⟨oc_spec_PairCount xs ys, fun id σ => match id with | 0 => some (lv_spec_PairCount_L0, .leaf (.normal, h_spec_PairCount_L0 xs ys (pairsM xs ys) xs.length)) | _ => none⟩ (by kernel_rfl) ht

-- END spec_PairCount

theorem sign_cases (x y : Nat) : (flt .f32 x y = true ∧ fgt .f32 x y = false ∧ signM x y = -1) ∨ (flt .f32 x y = false ∧ fgt .f32 x y = true ∧ signM x y = 1) ∨ (flt .f32 x y = false ∧ fgt .f32 x y = false ∧ signM x y = 0) := by
  unfold signM flt fgt
  cases h : FloatKind.f32.format.order x y with
  | none => simp
  | some o => cases o <;> simp

theorem k_spec_PairCount {P : Program} {f g1 : FuncId} (h : Is_spec_PairCount P f g1) (hg1 : C_spec_l03Pair P g1) : C_spec_PairCount P f := by
  intro xs ys hx hy
  refine q_spec_PairCount h xs ys ⟨hg1 _ _ hx hy, fun _ => ⟨fun h0 => ?_, fun h0 => ?_⟩⟩
  · simp at h0; simp [T.ok, h0]
  · simp at h0
    have hl := two_len h0
    refine ⟨?_, fun _ => by simp [T.ok, h0]⟩
    have tri : pairsM xs ys = sumN xs.length fun i => sumN (xs.length - (i + 1)) fun j => pairM xs ys (i + 1 + j) i := triangle _ _
    have rb : ∀ i n : Nat, -(n : Int) ≤ sumN n (fun j => pairM xs ys (i + 1 + j) i) ∧ sumN n (fun j => pairM xs ys (i + 1 + j) i) ≤ n := by
      intro i n
      have := sumN_bound (B := 1) (f := fun j => pairM xs ys (i + 1 + j) i) (by omega) n (fun j _ => pair_bound xs ys _ _)
      omega
    have rsb : ∀ k : Nat, k ≤ 96 → -9216 ≤ (sumN k fun i => sumN (xs.length - (i + 1)) fun j => pairM xs ys (i + 1 + j) i) ∧ (sumN k fun i => sumN (xs.length - (i + 1)) fun j => pairM xs ys (i + 1 + j) i) ≤ 9216 := by
      intro k hk
      have := sumN_bound (B := 96) (f := fun i => sumN (xs.length - (i + 1)) fun j => pairM xs ys (i + 1 + j) i) (by omega) k (fun i hi => by have := rb i (xs.length - (i + 1)); omega)
      omega
    refine for_up (e := .exit 0) xs.length (fun i => h_spec_PairCount_L0 xs ys (sumN i fun i => sumN (xs.length - (i + 1)) fun j => pairM xs ys (i + 1 + j) i) i) rfl (fun i hi => ?_) ?_
    · refine q_spec_PairCount_L0 _ _ _ _ ⟨fun _ => ⟨?_, fun _ => ?_⟩, fun h => absurd (of_decide_eq_false h) (by omega)⟩
      · have hb := rsb i (by omega)
        generalize (sumN i fun i => sumN (xs.length - (i + 1)) fun j => pairM xs ys (i + 1 + j) i) = S at *
        refine for_up (e := .exit 2) (xs.length - (i + 1)) (fun j => h_spec_PairCount_L2 xs ys S i (S + sumN j (fun j => pairM xs ys (i + 1 + j) i)) ((i + 1 + j : Nat) : Int)) ?_ (fun j hj => ?_) ?_
        · rw [wrap64_id (by omega) (by omega)]
          simp [sumN]
        · have hr := rb i j
          have ek : Int.toNat ((i + 1 + j : Nat) : Int) = i + 1 + j := Int.toNat_natCast _
          refine q_spec_PairCount_L2 _ _ _ _ _ _ ?_
          rw [ek, Int.toNat_natCast]
          have e : sumN (j + 1) (fun j => pairM xs ys (i + 1 + j) i) = sumN j (fun j => pairM xs ys (i + 1 + j) i) + signM (xs.getD (i + 1 + j) 0) (xs.getD i 0) * signM (ys.getD (i + 1 + j) 0) (ys.getD i 0) := rfl
          rw [e]
          generalize sumN j (fun j => pairM xs ys (i + 1 + j) i) = R at *
          rcases sign_cases (xs.getD (i + 1 + j) 0) (xs.getD i 0) with ⟨a1, a2, a3⟩ | ⟨a1, a2, a3⟩ | ⟨a1, a2, a3⟩ <;> rcases sign_cases (ys.getD (i + 1 + j) 0) (ys.getD i 0) with ⟨b1, b2, b3⟩ | ⟨b1, b2, b3⟩ | ⟨b1, b2, b3⟩
          all_goals
            simp only [a1, a2, a3, b1, b2, b3]
          repeat' (first | with_reducible refine T.ok_ob ?_ (fun _ => ?_) | with_reducible refine T.ok_ite (fun _ => ?_) (fun _ => ?_) | with_reducible refine T.ok_leaf ?_)
          all_goals first | contradiction | omega | (exfalso; rename_i h; exact absurd (of_decide_eq_false h) (by omega)) | skip
          all_goals
            simp (disch := omega) only [wrap64_id]
            first | rfl | (congr 2; omega)
        · refine q_spec_PairCount_L2 _ _ _ _ _ _ ⟨fun h => absurd (of_decide_eq_true h) (by omega), fun _ => ?_⟩
          show _ = _
          rw [show i + 1 + (xs.length - (i + 1)) = xs.length by omega, Int.toNat_natCast]
      · show _ = _
        rw [wrap64_id (by omega) (by omega)]
        simp only [sumN, Int.toNat_natCast]; rfl
    · refine q_spec_PairCount_L0 _ _ _ _ ⟨fun h => absurd h (by simp), fun _ => ?_⟩
      show _ = _
      rw [tri]

def backsM (xs ys : List Nat) (n : Nat) : List Nat := (List.range n).flatMap fun i => [fadd .f32 (xs.getD i 0) (ys.getD i 0), fsub .f32 (xs.getD i 0) (ys.getD i 0)]
def backOkM (xs ys : List Nat) : Bool := twoM xs ys && (!decide ((xs.length : Int) > 48) && finAllM (backsM xs ys xs.length))

theorem backs_len (xs ys : List Nat) : ∀ n, (backsM xs ys n).length = 2 * n
  | 0 => rfl
  | n + 1 => by
    have := backs_len xs ys n
    simp only [backsM, List.range_succ, List.flatMap_append, List.length_append] at this ⊢
    simp [List.flatMap, this]; simp [List.flatMap] at this; omega
theorem backs_next (xs ys : List Nat) (n : Nat) : backsM xs ys (n + 1) = backsM xs ys n ++ [fadd .f32 (xs.getD n 0) (ys.getD n 0), fsub .f32 (xs.getD n 0) (ys.getD n 0)] := by
  simp [backsM, List.range_succ, List.flatMap_append]



theorem sz_ok {n : Nat} {i : Int} (h : decide (szM n i < 0) = false) : (n : Int) ≤ i := by
  have := of_decide_eq_false h
  unfold szM at this
  split at this <;> omega

end Go.Proofs.LV
