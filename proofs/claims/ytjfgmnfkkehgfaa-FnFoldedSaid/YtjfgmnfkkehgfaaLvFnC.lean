/- Pairs that go together, waves of steps led back. -/
import Derived.Test.YtjfgmnfkkehgfaaLvFnB
namespace Go.Proofs.LV
open Go
set_option linter.unusedVariables false
set_option linter.unusedSimpArgs false

/-- the sum of the first n -/
def sumN : Nat → (Nat → Int) → Int
  | 0, _ => 0
  | n + 1, f => sumN n f + f n
def signM (x y : Nat) : Int := if flt .f32 x y = true then -1 else if fgt .f32 x y = true then 1 else 0
def pairM (xs ys : List Nat) (k i : Nat) : Int := signM (xs.getD k 0) (xs.getD i 0) * signM (ys.getD k 0) (ys.getD i 0)
def pairsM (xs ys : List Nat) : Int := sumN xs.length fun k => sumN k fun i => pairM xs ys k i

theorem sumN_bound {f : Nat → Int} {B : Int} (hB : 0 ≤ B) (n : Nat) (h : ∀ i, i < n → -B ≤ f i ∧ f i ≤ B) : -(B * n) ≤ sumN n f ∧ sumN n f ≤ B * n := by
  induction n with
  | zero => simp [sumN]
  | succ n ih =>
    have := ih (fun i hi => h i (by omega))
    have := h n (by omega)
    simp only [sumN]
    rw [Int.natCast_succ, Int.mul_add]
    omega
theorem sumN_congr {f g : Nat → Int} (n : Nat) (h : ∀ i, i < n → f i = g i) : sumN n f = sumN n g := by
  induction n with
  | zero => rfl
  | succ n ih => simp only [sumN, ih (fun i hi => h i (by omega)), h n (by omega)]
theorem sumN_add (f g : Nat → Int) (n : Nat) : (sumN n fun i => f i + g i) = sumN n f + sumN n g := by
  induction n with
  | zero => rfl
  | succ n ih => simp only [sumN, ih]; omega
/-- the sums over a triangle, by rows and by columns -/
theorem triangle (t : Nat → Nat → Int) (n : Nat) : (sumN n fun k => sumN k fun i => t k i) = sumN n fun i => sumN (n - (i + 1)) fun j => t (i + 1 + j) i := by
  induction n with
  | zero => rfl
  | succ n ih =>
    have e : (sumN n fun i => sumN (n + 1 - (i + 1)) fun j => t (i + 1 + j) i) = (sumN n fun i => sumN (n - (i + 1)) fun j => t (i + 1 + j) i) + sumN n fun i => t n i := by
      rw [← sumN_add]
      refine sumN_congr n fun i hi => ?_
      rw [show n + 1 - (i + 1) = (n - (i + 1)) + 1 by omega]
      simp only [sumN]
      rw [show i + 1 + (n - (i + 1)) = n by omega]
    show (sumN n fun k => sumN k fun i => t k i) + (sumN n fun i => t n i) = (sumN n fun i => sumN (n + 1 - (i + 1)) fun j => t (i + 1 + j) i) + sumN (n + 1 - (n + 1)) fun j => t (n + 1 + j) n
    rw [e, ih, Nat.sub_self]
    simp only [sumN]; omega
theorem sign_bound (x y : Nat) : signM x y = -1 ∨ signM x y = 0 ∨ signM x y = 1 := by
  unfold signM; split
  · simp
  · split <;> simp
theorem pair_bound (xs ys : List Nat) (k i : Nat) : -1 ≤ pairM xs ys k i ∧ pairM xs ys k i ≤ 1 := by
  unfold pairM
  rcases sign_bound (xs.getD k 0) (xs.getD i 0) with h | h | h <;> rcases sign_bound (ys.getD k 0) (ys.getD i 0) with h' | h' | h' <;> rw [h, h'] <;> decide
theorem row_bound (xs ys : List Nat) (k n : Nat) : -(n : Int) ≤ sumN n (fun i => pairM xs ys k i) ∧ sumN n (fun i => pairM xs ys k i) ≤ n := by
  have := sumN_bound (B := 1) (f := fun i => pairM xs ys k i) (by omega) n (fun i _ => pair_bound xs ys k i)
  omega
theorem rows_bound (xs ys : List Nat) (k : Nat) (hk : k ≤ 96) : -9216 ≤ (sumN k fun k => sumN k fun i => pairM xs ys k i) ∧ (sumN k fun k => sumN k fun i => pairM xs ys k i) ≤ 9216 := by
  have := sumN_bound (B := 96) (f := fun k => sumN k fun i => pairM xs ys k i) (by omega) k (fun i hi => by have := row_bound xs ys i i; omega)
  omega
theorem series_len {xs : List Nat} (h : seriesM xs = true) : 1 ≤ xs.length ∧ xs.length ≤ 96 := by
  simp only [seriesM, Bool.and_eq_true, decide_eq_true_eq] at h
  omega
theorem two_len {xs ys : List Nat} (h : twoM xs ys = true) : 1 ≤ xs.length ∧ xs.length ≤ 96 ∧ ys.length = xs.length := by
  simp only [twoM, Bool.and_eq_true, beq_iff_eq] at h
  have := series_len h.1.1
  omega


theorem sign_cases (x y : Nat) : (flt .f32 x y = true ∧ fgt .f32 x y = false ∧ signM x y = -1) ∨ (flt .f32 x y = false ∧ fgt .f32 x y = true ∧ signM x y = 1) ∨ (flt .f32 x y = false ∧ fgt .f32 x y = false ∧ signM x y = 0) := by
  unfold signM flt fgt
  cases h : FloatKind.f32.format.order x y with
  | none => simp
  | some o => cases o <;> simp

def backsM (xs ys : List Nat) (n : Nat) : List Nat := (List.range n).flatMap fun i => [fadd .f32 (xs.getD i 0) (ys.getD i 0), fsub .f32 (xs.getD i 0) (ys.getD i 0)]
def backOkM (xs ys : List Nat) : Bool := twoM xs ys && (!decide ((xs.length : Int) > 48) && finAllM (backsM xs ys xs.length))

theorem backs_len (xs ys : List Nat) : ∀ n, (backsM xs ys n).length = 2 * n
  | 0 => rfl
  | n + 1 => by
    have := backs_len xs ys n
    simp only [backsM, List.range_succ, List.flatMap_append, List.length_append] at this ⊢
    simp [List.flatMap, this]; simp [List.flatMap] at this; omega
theorem backs_next (xs ys : List Nat) (n : Nat) : backsM xs ys (n + 1) = backsM xs ys n ++ [fadd .f32 (xs.getD n 0) (ys.getD n 0), fsub .f32 (xs.getD n 0) (ys.getD n 0)] := by
  simp [backsM, List.range_succ, List.flatMap_append]

-- FN impl_BackOfWaves
/-- impl.BackOfWaves: slots 46, results [.t 4, .t 5]; calls [11:g_impl_areTwo, 43:g_impl_ifAll]; names [(means, 0), (steps, 1), (means, 2), (steps, 3), (out, 6), (i, 7), (m, 8)] -/
def ps_impl_BackOfWaves : List Nat := [0, 1, 4, 5, 6, 7, 8, 17, 19, 20, 21, 22]
def lv_impl_BackOfWaves_L0 : List Nat := [1, 6, 19, 20, 21]
def b_impl_BackOfWaves_L0 (g_impl_areTwo g_impl_ifAll : FuncId) : VCode :=
  (.seq
   (.region false [
    ⟨some 22, (.bin .lss), [.t 21, .t 20], none⟩])
   (.seq
    (.cond (.t 22)
     .skip
     (.exit 0))
    (.seq
     (.block 1
      (.seq
       (.region false [
        ⟨some 23, .mv, [.t 21], none⟩,
        ⟨some 24, .iaddr, [.t 19, .t 21], none⟩,
        ⟨some 25, .load, [.t 24], none⟩,
        ⟨some 7, .mv, [.t 23], none⟩,
        ⟨some 8, .mv, [.t 25], none⟩])
       (.region true [
        ⟨some 26, .mv, [.t 6], none⟩,
        ⟨some 27, .mv, [.t 8], none⟩,
        ⟨some 28, .mv, [.t 1], none⟩,
        ⟨some 29, .mv, [.t 7], none⟩,
        ⟨some 30, .iaddr, [.t 28, .t 29], none⟩,
        ⟨some 31, .load, [.t 30], none⟩,
        ⟨some 32, (.bin .add), [.t 27, .t 31], none⟩,
        ⟨some 33, .mv, [.t 8], none⟩,
        ⟨some 34, .mv, [.t 1], none⟩,
        ⟨some 35, .mv, [.t 7], none⟩,
        ⟨some 36, .iaddr, [.t 34, .t 35], none⟩,
        ⟨some 37, .load, [.t 36], none⟩,
        ⟨some 38, (.bin .sub), [.t 33, .t 37], none⟩,
        ⟨some 39, (.lit true (.f .f32 [])), [.t 32, .t 38], none⟩,
        ⟨some 40, .app, [.t 26, .t 39], none⟩,
        ⟨some 6, .mv, [.t 40], none⟩])))
     (.region false [
      ⟨some 41, (.bin .add), [.t 21, .k (.i .i64 1)], none⟩,
      ⟨some 21, .mv, [.t 41], none⟩]))))

def b_impl_BackOfWaves (g_impl_areTwo g_impl_ifAll : FuncId) : VCode :=
  (.seq
   (.region false [
    ⟨some 4, (.nilsl (.f .f32 [])), [], none⟩,
    ⟨some 5, .mv, [.k (.b false)], none⟩])
   (.seq
    (.seq
     (.region false [
      ⟨some 9, .mv, [.t 0], none⟩,
      ⟨some 10, .mv, [.t 1], none⟩,
      ⟨some 11, (.call g_impl_areTwo), [.t 9, .t 10], none⟩,
      ⟨some 12, .not, [.t 11], none⟩,
      ⟨some 13, .mv, [.t 12], none⟩,
      ⟨some 14, .mv, [.t 0], some (13, false)⟩,
      ⟨some 15, .len, [.t 14], some (13, false)⟩,
      ⟨some 16, (.bin .gtr), [.t 15, .k (.i .i64 48)], some (13, false)⟩,
      ⟨some 17, .pick, [.t 13, .k (.b true), .t 16], none⟩])
     (.cond (.t 17)
      (.seq
       (.region false [
        ⟨some 4, (.nilsl (.f .f32 [])), [], none⟩,
        ⟨some 5, .mv, [.k (.b false)], none⟩])
       .ret)
      .skip))
    (.seq
     (.region false [
      ⟨some 18, (.lit true (.f .f32 [])), [], none⟩,
      ⟨some 6, .mv, [.t 18], none⟩])
     (.seq
      (.seq
       (.region false [
        ⟨some 19, .mv, [.t 0], none⟩,
        ⟨some 20, .len, [.t 19], none⟩,
        ⟨some 21, .mv, [.k (.i .i64 0)], none⟩])
       (.block 0 (.loop (b_impl_BackOfWaves_L0 g_impl_areTwo g_impl_ifAll))))
      (.seq
       (.region false [
        ⟨some 42, .mv, [.t 6], none⟩,
        ⟨some 43, (.call g_impl_ifAll), [.t 42], none⟩,
        ⟨some 44, (.extract 0), [.t 43], none⟩,
        ⟨some 45, (.extract 1), [.t 43], none⟩,
        ⟨some 4, .mv, [.t 44], none⟩,
        ⟨some 5, .mv, [.t 45], none⟩])
       .ret)))))

abbrev Is_impl_BackOfWaves (P : Program) (g_f : FuncId) (g_impl_areTwo g_impl_ifAll : FuncId) : Prop := FnIs P g_f 46 [.t 4, .t 5] (b_impl_BackOfWaves g_impl_areTwo g_impl_ifAll)

abbrev C_impl_BackOfWaves (P : Program) (g_f : FuncId) : Prop := ∀ (xs : List Nat) (ys : List Nat) (hx : xs.length ≤ maxLen) (hy : ys.length ≤ maxLen), VCall P g_f [PS [0] .f32 xs, PS [1] .f32 ys] (.tup [OS 0 .f32 (if backOkM xs ys = true then backsM xs ys xs.length else []), .b (backOkM xs ys)])
def oc1_impl_BackOfWaves (as : List AV) : T AV := match as with | [.sl _ _ (.f .f32 xs), .sl _ _ (.f .f32 ys)] => .leaf (.tup [OS 0 .f32 (if backOkM xs ys = true then backsM xs ys xs.length else []), .b (backOkM xs ys)]) | _ => .fail
def oc_impl_BackOfWaves (xs : List Nat) (ys : List Nat) (d : Nat) (as : List AV) : T AV := match d with | 11 => oc1_impl_areTwo as | 43 => oc1_impl_ifAll as | _ => .fail
def h_impl_BackOfWaves_L0 (xs : List Nat) (ys : List Nat) (out : List Nat) (v21 : Int) : Env := [.any, AV.sl (Tag.par [1]) 0 (Cont.f FloatKind.f32 ys)] ++ anys 4 ++ [.sl (Tag.own 144) 0 (.f FloatKind.f32 out)] ++ anys 12 ++ [AV.sl (Tag.par [0]) 0 (Cont.f FloatKind.f32 xs), AV.i IntKind.i64 (↑(List.length xs) : Int), .i IntKind.i64 v21] ++ anys 24

theorem q_impl_BackOfWaves_L0 {VC : FuncId → List AV → AV → Prop} {g_impl_areTwo g_impl_ifAll : FuncId} (xs : List Nat) (ys : List Nat) (out : List Nat) (v21 : Int) {e_ : Ex} {σ_ : Env} (ht : T.ok (fun x_ => x_ = (e_, σ_)) (
      T.ite (decide (v21 < (↑(List.length xs) : Int)))
        (T.ob (0 ≤ v21 ∧ v21 < (↑(List.length xs) : Int))
          (T.ob (0 ≤ v21 ∧ v21 < (↑(List.length ys) : Int))
            (T.ob (0 ≤ v21 ∧ v21 < (↑(List.length ys) : Int))
              (T.ob
                (List.length out + List.length [fadd FloatKind.f32 (List.getD xs (Int.toNat v21) 0) (List.getD ys (Int.toNat v21) 0), fsub FloatKind.f32 (List.getD xs (Int.toNat v21) 0) (List.getD ys (Int.toNat v21) 0)] ≤
                  4294967296)
                (T.leaf
                  (Ex.normal,
                    h_impl_BackOfWaves_L0 xs ys
                      (out ++ [fadd FloatKind.f32 (List.getD xs (Int.toNat v21) 0) (List.getD ys (Int.toNat v21) 0), fsub FloatKind.f32 (List.getD xs (Int.toNat v21) 0) (List.getD ys (Int.toNat v21) 0)])
                      (IntKind.wrap IntKind.i64 (v21 + 1))))))))
        (T.leaf (Ex.exit 0, h_impl_BackOfWaves_L0 xs ys out v21)))) :
    Exec VC ps_impl_BackOfWaves (b_impl_BackOfWaves_L0 g_impl_areTwo g_impl_ifAll) (h_impl_BackOfWaves_L0 xs ys out v21) e_ σ_ := evL_of (lv := lv_impl_BackOfWaves_L0) (rs := [4, 5]) (O := ⟨oc_impl_BackOfWaves xs ys, fun _ _ => none⟩) (by kernel_rfl) ht

theorem q_impl_BackOfWaves {P : Program} {g_f : FuncId} {g_impl_areTwo g_impl_ifAll : FuncId} (h_ : Is_impl_BackOfWaves P g_f g_impl_areTwo g_impl_ifAll) (xs : List Nat) (ys : List Nat) (ht : T.ok (fun x_ => x_ = .tup [OS 0 .f32 (if backOkM xs ys = true then backsM xs ys xs.length else []), .b (backOkM xs ys)]) (
      T.ob ((VCall P) g_impl_areTwo [AV.sl (Tag.par [0]) 0 (Cont.f FloatKind.f32 xs), AV.sl (Tag.par [1]) 0 (Cont.f FloatKind.f32 ys)] (AV.b (twoM xs ys)))
        (T.ite (!twoM xs ys) (T.leaf (AV.tup [AV.sl (Tag.own 0) 0 (Cont.f FloatKind.f32 []), AV.b false]))
          (T.ite (decide ((↑(List.length xs) : Int) > 48)) (T.leaf (AV.tup [AV.sl (Tag.own 0) 0 (Cont.f FloatKind.f32 []), AV.b false]))
            (T.ob
              (Exec (VCall P) ps_impl_BackOfWaves (VCode.block 0 (VCode.loop (b_impl_BackOfWaves_L0 g_impl_areTwo g_impl_ifAll))) (h_impl_BackOfWaves_L0 xs ys [] 0) Ex.normal
                (h_impl_BackOfWaves_L0 xs ys (backsM xs ys (List.length xs)) (↑(List.length xs) : Int)))
              (T.ob
                ((VCall P) g_impl_ifAll [AV.sl (Tag.par [0]) 0 (Cont.f FloatKind.f32 (backsM xs ys (List.length xs)))]
                  (AV.tup [AV.sl (Tag.par [0]) 0 (Cont.f FloatKind.f32 (ifAllM (backsM xs ys (List.length xs)))), AV.b (finAllM (backsM xs ys (List.length xs)))]))
                (T.leaf (AV.tup [AV.sl (Tag.own 0) 0 (Cont.f FloatKind.f32 (ifAllM (backsM xs ys (List.length xs)))), AV.b (finAllM (backsM xs ys (List.length xs)))])))))))) :
    VCall P g_f [PS [0] .f32 xs, PS [1] .f32 ys] (.tup [OS 0 .f32 (if backOkM xs ys = true then backsM xs ys xs.length else []), .b (backOkM xs ys)]) := h_.call_of ps_impl_BackOfWaves ⟨oc_impl_BackOfWaves xs ys, fun id σ => match id with | 0 => some (lv_impl_BackOfWaves_L0, .leaf (.normal, h_impl_BackOfWaves_L0 xs ys (backsM xs ys xs.length) xs.length)) | _ => none⟩ (by kernel_rfl) ht

-- END impl_BackOfWaves


theorem k_impl_BackOfWaves {P : Program} {f g1 g2 : FuncId} (h : Is_impl_BackOfWaves P f g1 g2) (hg1 : C_impl_areTwo P g1) (hg2 : C_impl_ifAll P g2) : C_impl_BackOfWaves P f := by
  intro xs ys hx hy
  refine q_impl_BackOfWaves h xs ys ⟨hg1 _ _ hx hy, fun _ => ⟨fun h0 => ?_, fun h0 => ⟨fun h1 => ?_, fun h1 => ?_⟩⟩⟩
  · simp at h0; simp [T.ok, backOkM, h0]
  · simp at h0; simp only [T.ok, backOkM, h0, h1]; simp
  · simp at h0
    have hl := two_len h0
    have hbl := backs_len xs ys
    refine ⟨?_, fun _ => ⟨hg2 _ (by rw [hbl, maxLen_eq]; omega), fun _ => ?_⟩⟩
    · refine for_up (e := .exit 0) xs.length (fun i => h_impl_BackOfWaves_L0 xs ys (backsM xs ys i) i) rfl (fun i hi => ?_) ?_
      · refine q_impl_BackOfWaves_L0 _ _ _ _ ⟨fun _ => ⟨by omega, fun _ => ⟨by omega, fun _ => ⟨by omega, fun _ => ⟨by rw [hbl]; simp; omega, fun _ => ?_⟩⟩⟩⟩, fun h => absurd (of_decide_eq_false h) (by omega)⟩
        show _ = _
        rw [wrap64_id (by omega) (by omega), backs_next, getD_nat, getD_nat]; rfl
      · exact q_impl_BackOfWaves_L0 _ _ _ _ ⟨fun h => absurd h (by simp), fun _ => rfl⟩
    · show _ = _
      simp only [backOkM, h0, h1, ifAllM]; simp

theorem sz_ok {n : Nat} {i : Int} (h : decide (szM n i < 0) = false) : (n : Int) ≤ i := by
  have := of_decide_eq_false h
  unfold szM at this
  split at this <;> omega

end Go.Proofs.LV
