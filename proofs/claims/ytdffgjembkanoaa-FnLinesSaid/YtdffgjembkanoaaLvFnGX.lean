/- Texts that belong together. -/
import Derived.Test.YtdffgjembkanoaaLvFnF
namespace Go.Proofs.LV
open Go
set_option linter.unusedVariables false
set_option linter.unusedSimpArgs false

/-- how many of p, p + per, .. lie below i -/
def cntM (i p per : Nat) : Nat := i / per + (if p < i % per then 1 else 0)
def fsumM (xs : List Nat) (per p n : Nat) : Nat := accN (fun j s => fadd .f32 s (xs.getD (p + j * per) 0)) n 0
def foldM (xs : List Nat) (per : Nat) : List Nat := tab per fun p => fdiv .f32 (fsumM xs per p (cntM xs.length p per)) (fofi .f32 (cntM xs.length p per))
def leftM (xs means : List Nat) : Nat := accN (fun i s => fadd .f32 s (fmul .f32 (fsub .f32 (xs.getD i 0) (means.getD (i % means.length) 0)) (fsub .f32 (xs.getD i 0) (means.getD (i % means.length) 0)))) xs.length 0

theorem cnt_lt (n p per j : Nat) (hp : p < per) : j < cntM n p per ↔ p + j * per < n := by
  have h1 := Nat.div_add_mod n per
  have h2 := Nat.mod_lt n (show per > 0 by omega)
  unfold cntM
  generalize n / per = q at *
  generalize n % per = r at *
  have a := fun (x y : Nat) (h : x ≤ y) => Nat.mul_le_mul_right per h
  have hc := Nat.mul_comm per q
  split
  · constructor
    · intro h
      have := a j q (by omega); omega
    · intro h
      apply Decidable.byContradiction; intro h'
      have := a (q + 1) j (by omega)
      rw [Nat.succ_mul] at this; omega
  · constructor
    · intro h
      have := a (j + 1) q (by omega)
      rw [Nat.succ_mul] at this; omega
    · intro h
      apply Decidable.byContradiction; intro h'
      have := a q j (by omega); omega
theorem cnt_next (i p per : Nat) (hp : p < per) : cntM (i + 1) p per = cntM i p per + (if i % per = p then 1 else 0) := by
  have h1 := Nat.div_add_mod i per
  have h2 := Nat.mod_lt i (show per > 0 by omega)
  unfold cntM
  generalize i / per = q at *
  generalize i % per = r at *
  by_cases h3 : r + 1 < per
  · have e1 : (i + 1) / per = q := by rw [← h1, Nat.add_assoc, Nat.mul_add_div (by omega), Nat.div_eq_of_lt h3, Nat.add_zero]
    have e2 : (i + 1) % per = r + 1 := by rw [← h1, Nat.add_assoc, Nat.mul_add_mod, Nat.mod_eq_of_lt h3]
    rw [e1, e2]
    repeat' split
    all_goals omega
  · have e : i + 1 = per * (q + 1) := by rw [Nat.mul_succ]; omega
    rw [e, Nat.mul_div_cancel_left _ (by omega), Nat.mul_mod_right]
    repeat' split
    all_goals omega
theorem cnt_at (i per : Nat) : i % per + cntM i (i % per) per * per = i := by
  unfold cntM
  rw [if_neg (by omega), Nat.add_zero, Nat.add_comm, Nat.mul_comm]
  exact Nat.div_add_mod i per
theorem cnt_zero (p per : Nat) : cntM 0 p per = 0 := by simp [cntM]
theorem tab_set {α : Type} (n : Nat) (f : Nat → α) (a : Nat) (v : α) : (tab n f).set a v = tab n fun p => if p = a then v else f p := by
  apply List.ext_getElem?
  intro i
  rw [List.getElem?_set]
  simp only [tab, List.length_map, List.length_range, List.getElem?_map]
  by_cases h : i < n
  · rw [List.getElem?_range h]
    by_cases h2 : a = i
    · subst h2; simp [h]
    · have h3 : ¬ (i = a) := fun e => h2 e.symm
      simp [h2, h3]
  · have : (List.range n)[i]? = none := by simp; omega
    rw [this]
    split
    · simp; omega
    · rfl
theorem sum_tab (n : Nat) (f : Nat → Nat) : sumM (tab n f) = accN (fun j s => fadd .f32 s (f j)) n 0 := by
  unfold sumM
  rw [tab_len]
  exact accN_congr fun i x hi => by rw [tab_get _ _ _ _ hi]
theorem mean_tab (n : Nat) (f : Nat → Nat) : meanM (tab n f) = fdiv .f32 (accN (fun j s => fadd .f32 s (f j)) n 0) (fofi .f32 n) := by
  unfold meanM; rw [sum_tab, tab_len]
theorem tmod_nat (a b : Nat) : Int.tmod (a : Int) (b : Int) = ((a % b : Nat) : Int) := rfl
theorem fold_len (xs : List Nat) (per : Nat) : (foldM xs per).length = per := tab_len _ _




def foldOk (xs : List Nat) (per : Int) : Bool := seriesM xs && (inM per 1 xs.length && (finAllM (foldM xs per.toNat) && finM (leftM xs (foldM xs per.toNat))))





def moreM (xs : List Nat) : Bool := xs.all fun x => finM x && fgt .f32 x 0



/-- the level and the factors, one number on -/
def tsStep (xs : List Nat) (per s i : Nat) (a : Nat × List Nat) : Nat × List Nat :=
  let l := fadd .f32 a.1 (fmul .f32 s (fsub .f32 (fdiv .f32 (xs.getD i 0) (a.2.getD (i % per) 0)) a.1))
  (l, a.2.set (i % per) (fadd .f32 (a.2.getD (i % per) 0) (fmul .f32 s (fsub .f32 (fdiv .f32 (xs.getD i 0) l) (a.2.getD (i % per) 0)))))
def tsAt (xs : List Nat) (per s j : Nat) : Nat × List Nat := accN (fun j a => tsStep xs per s (per + j) a) j (meanM (xs.take per), tab per fun k => fdiv .f32 (xs.getD k 0) (meanM (xs.take per)))
def tsEnd (xs : List Nat) (per s : Nat) : Nat × List Nat := tsAt xs per s (xs.length - per)
def tsOk (xs : List Nat) (per : Int) (s : Nat) : Bool := seriesM xs && (inM per 1 24 && (decide (per ≤ xs.length) && (moreM xs && (isShareM s && (finAllM (tsEnd xs per.toNat s).2 && finM (tsEnd xs per.toNat s).1)))))



theorem cnt_le (n p per : Nat) (hp : p < per) (hn : n ≤ 96) : cntM n p per ≤ 96 := by
  have := cnt_lt n p per 96 (by omega)
  apply Decidable.byContradiction; intro h'
  have := this.1 (by omega)
  have := Nat.le_mul_of_pos_right 96 (show 0 < per by omega)
  omega
theorem replicate_tab {α : Type} (n : Nat) (x : α) : List.replicate n x = tab n fun _ => x := by
  simp [tab, List.map_const']
theorem tab_getI (n : Nat) (f : Nat → Int) (i : Nat) (h : i < n) : (tab n f).getD i 0 = f i := tab_get _ _ _ _ h
theorem in_1 {per : Int} {n : Nat} (h : inM per 1 n = true) : 1 ≤ per ∧ per ≤ n := by simpa [inM] using h
theorem per_cond (xs : List Nat) (per : Int) : (seriesM xs && inM per 1 xs.length && decide (per ≤ 24)) = (seriesM xs && (inM per 1 24 && decide (per ≤ xs.length))) := by
  rw [Bool.eq_iff_iff]
  cases seriesM xs <;> simp [inM]
  omega
theorem getD_take {α : Type} (xs : List α) (k i : Nat) (d : α) (h : i < k) : (xs.take k).getD i d = xs.getD i d := by
  simp [List.getD, h]
theorem ts_len (xs : List Nat) (k s : Nat) : ∀ j, (tsAt xs k s j).2.length = k
  | 0 => tab_len _ _
  | j + 1 => by
    have := ts_len xs k s j
    show (tsStep xs k s (k + j) (tsAt xs k s j)).2.length = k
    simp only [tsStep, List.length_set]; exact this
theorem all_allN {p : Nat → Bool} (xs : List Nat) : xs.all p = allN xs.length fun i => p (xs.getD i 0) := by
  have := any_allN (p := fun x => !p x) xs
  rw [← List.not_all_eq_any_not] at this
  simpa using this
end Go.Proofs.LV

namespace Go.Proofs.LV
open Go
set_option linter.unusedVariables false
set_option linter.unusedSimpArgs false

def weighedM (ws a b : List Nat) : Nat := accN (fun i s => fadd .f32 s (fmul .f32 (fmul .f32 (ws.getD i 0) (a.getD i 0)) (b.getD i 0))) ws.length 0
def wfX (x ws : List Nat) : Nat := fdiv .f32 (dotM ws x) (sumM ws)
def wfU (x ws : List Nat) : List Nat := lessOneM x (wfX x ws)
def wfDown (x ws : List Nat) : Nat := weighedM ws (wfU x ws) (wfU x ws)
def wfSlope (x y ws : List Nat) : Nat := fdiv .f32 (weighedM ws (wfU x ws) (wfU y ws)) (wfDown x ws)
def wfBase (x y ws : List Nat) : Nat := fsub .f32 (wfX y ws) (fmul .f32 (wfSlope x y ws) (wfX x ws))
def wfOk (x y ws : List Nat) : Bool := twoM x y && (twoM x ws && (notLessM ws && (fgt .f32 (sumM ws) 0 && (!feq .f32 (wfDown x ws) 0 && (finM (wfBase x y ws) && finM (wfSlope x y ws))))))

-- FN impl_weighed
/-- impl.weighed: slots 32, results [.t 6]; calls []; names [(weights, 0), (a, 1), (b, 2), (weights, 3), (a, 4), (b, 5), (sum, 7), (i, 8), (w, 9)] -/
def ps_impl_weighed : List Nat := [0, 1, 2, 6, 7, 8, 9, 10, 11, 12, 13]
def lv_impl_weighed_L0 : List Nat := [1, 2, 7, 10, 11, 12]
def b_impl_weighed_L0 : VCode :=
  (.seq
   (.region false [
    ⟨some 13, (.bin .lss), [.t 12, .t 11], none⟩])
   (.seq
    (.cond (.t 13)
     .skip
     (.exit 0))
    (.seq
     (.block 1
      (.seq
       (.region false [
        ⟨some 14, .mv, [.t 12], none⟩,
        ⟨some 15, .iaddr, [.t 10, .t 12], none⟩,
        ⟨some 16, .load, [.t 15], none⟩,
        ⟨some 8, .mv, [.t 14], none⟩,
        ⟨some 9, .mv, [.t 16], none⟩])
       (.region true [
        ⟨some 17, .mv, [.t 7], none⟩,
        ⟨some 18, .mv, [.t 9], none⟩,
        ⟨some 19, .mv, [.t 1], none⟩,
        ⟨some 20, .mv, [.t 8], none⟩,
        ⟨some 21, .iaddr, [.t 19, .t 20], none⟩,
        ⟨some 22, .load, [.t 21], none⟩,
        ⟨some 23, (.bin .mul), [.t 18, .t 22], none⟩,
        ⟨some 24, .mv, [.t 2], none⟩,
        ⟨some 25, .mv, [.t 8], none⟩,
        ⟨some 26, .iaddr, [.t 24, .t 25], none⟩,
        ⟨some 27, .load, [.t 26], none⟩,
        ⟨some 28, (.bin .mul), [.t 23, .t 27], none⟩,
        ⟨some 29, (.bin .add), [.t 17, .t 28], none⟩,
        ⟨some 7, .mv, [.t 29], none⟩])))
     (.region false [
      ⟨some 30, (.bin .add), [.t 12, .k (.i .i64 1)], none⟩,
      ⟨some 12, .mv, [.t 30], none⟩]))))

def b_impl_weighed : VCode :=
  (.seq
   (.region false [
    ⟨some 6, .mv, [.k (.f .f32 0)], none⟩])
   (.seq
    (.region false [
     ⟨some 7, .mv, [.k (.f .f32 0)], none⟩])
    (.seq
     (.seq
      (.region false [
       ⟨some 10, .mv, [.t 0], none⟩,
       ⟨some 11, .len, [.t 10], none⟩,
       ⟨some 12, .mv, [.k (.i .i64 0)], none⟩])
      (.block 0 (.loop b_impl_weighed_L0)))
     (.seq
      (.region false [
       ⟨some 31, .mv, [.t 7], none⟩,
       ⟨some 6, .mv, [.t 31], none⟩])
      .ret))))

abbrev Is_impl_weighed (P : Program) (g_f : FuncId) : Prop := FnIs P g_f 32 [.t 6] (b_impl_weighed)

abbrev C_impl_weighed (P : Program) (g_f : FuncId) : Prop := ∀ (ws : List Nat) (a : List Nat) (b : List Nat) (ha : ws.length ≤ a.length) (hb : ws.length ≤ b.length) (hx : ws.length ≤ maxLen), VCall P g_f [PS [0] .f32 ws, PS [1] .f32 a, PS [2] .f32 b] (.f .f32 (weighedM ws a b))
def oc1_impl_weighed (as : List AV) : T AV := match as with | [.sl _ _ (.f .f32 ws), .sl _ _ (.f .f32 a), .sl _ _ (.f .f32 b)] => .leaf (.f .f32 (weighedM ws a b)) | _ => .fail
def h_impl_weighed_L0 (ws : List Nat) (a : List Nat) (b : List Nat) (sum : Nat) (v12 : Int) : Env := [.any, AV.sl (Tag.par [1]) 0 (Cont.f FloatKind.f32 a), AV.sl (Tag.par [2]) 0 (Cont.f FloatKind.f32 b)] ++ anys 4 ++ [.f FloatKind.f32 sum, .any, .any, AV.sl (Tag.par [0]) 0 (Cont.f FloatKind.f32 ws), AV.i IntKind.i64 (↑(List.length ws) : Int), .i IntKind.i64 v12] ++ anys 19

theorem q_impl_weighed_L0 {VC : FuncId → List AV → AV → Prop} (ws : List Nat) (a : List Nat) (b : List Nat) (sum : Nat) (v12 : Int) {e_ : Ex} {σ_ : Env} (ht : T.ok (fun x_ => x_ = (e_, σ_)) (
      T.ite (decide (v12 < (↑(List.length ws) : Int)))
        (T.ob (0 ≤ v12 ∧ v12 < (↑(List.length ws) : Int))
          (T.ob (0 ≤ v12 ∧ v12 < (↑(List.length a) : Int))
            (T.ob (0 ≤ v12 ∧ v12 < (↑(List.length b) : Int))
              (T.leaf
                (Ex.normal,
                  h_impl_weighed_L0 ws a b (fadd FloatKind.f32 sum (fmul FloatKind.f32 (fmul FloatKind.f32 (List.getD ws (Int.toNat v12) 0) (List.getD a (Int.toNat v12) 0)) (List.getD b (Int.toNat v12) 0)))
                    (IntKind.wrap IntKind.i64 (v12 + 1)))))))
        (T.leaf (Ex.exit 0, h_impl_weighed_L0 ws a b sum v12)))) :
    Exec VC ps_impl_weighed (b_impl_weighed_L0) (h_impl_weighed_L0 ws a b sum v12) e_ σ_ := evL_of (lv := lv_impl_weighed_L0) (rs := [6]) (O := ⟨fun _ _ => .fail, fun _ _ => none⟩) (by kernel_rfl) ht

theorem q_impl_weighed {P : Program} {g_f : FuncId} (h_ : Is_impl_weighed P g_f) (ws : List Nat) (a : List Nat) (b : List Nat) (ht : T.ok (fun x_ => x_ = .f .f32 (weighedM ws a b)) (
      T.ob (Exec (VCall P) ps_impl_weighed (VCode.block 0 (VCode.loop b_impl_weighed_L0)) (h_impl_weighed_L0 ws a b 0 0) Ex.normal (h_impl_weighed_L0 ws a b (weighedM ws a b) (↑(List.length ws) : Int)))
        (T.leaf (AV.f FloatKind.f32 (weighedM ws a b))))) :
    VCall P g_f [PS [0] .f32 ws, PS [1] .f32 a, PS [2] .f32 b] (.f .f32 (weighedM ws a b)) := h_.call_of ps_impl_weighed ⟨fun _ _ => .fail, fun id σ => match id with | 0 => some (lv_impl_weighed_L0, .leaf (.normal, h_impl_weighed_L0 ws a b (weighedM ws a b) ws.length)) | _ => none⟩ (by kernel_rfl) ht

-- END impl_weighed

-- FN impl_WeightFit
/-- impl.WeightFit: slots 74, results [.t 6, .t 7, .t 8]; calls [16:g_impl_addUp, 19:g_impl_areTwo, 24:g_impl_areTwo, 29:g_impl_areNotLess, 39:g_impl_dot, 44:g_impl_dot, 49:g_impl_lessOne, 53:g_impl_weighed, 60:g_impl_lessOne, 61:g_impl_weighed, 70:g_impl_ifTwo]; names [(x, 0), (y, 1), (weights, 2), (x, 3), (y, 4), (weights, 5), (w, 9), (first, 10), (second, 11), (u, 12), (down, 13), (slope, 14)] -/
def ps_impl_WeightFit : List Nat := [0, 1, 2, 6, 7, 8, 9, 10, 11, 12, 13, 14, 36, 55]
def b_impl_WeightFit (g_impl_addUp g_impl_areTwo g_impl_areNotLess g_impl_dot g_impl_lessOne g_impl_weighed g_impl_ifTwo : FuncId) : VCode :=
  (.seq
   (.region false [
    ⟨some 6, .mv, [.k (.f .f32 0)], none⟩,
    ⟨some 7, .mv, [.k (.f .f32 0)], none⟩,
    ⟨some 8, .mv, [.k (.b false)], none⟩])
   (.seq
    (.region false [
     ⟨some 15, .mv, [.t 2], none⟩,
     ⟨some 16, (.call g_impl_addUp), [.t 15], none⟩,
     ⟨some 9, .mv, [.t 16], none⟩])
    (.seq
     (.seq
      (.region false [
       ⟨some 17, .mv, [.t 0], none⟩,
       ⟨some 18, .mv, [.t 1], none⟩,
       ⟨some 19, (.call g_impl_areTwo), [.t 17, .t 18], none⟩,
       ⟨some 20, .not, [.t 19], none⟩,
       ⟨some 21, .mv, [.t 20], none⟩,
       ⟨some 22, .mv, [.t 0], some (21, false)⟩,
       ⟨some 23, .mv, [.t 2], some (21, false)⟩,
       ⟨some 24, (.call g_impl_areTwo), [.t 22, .t 23], some (21, false)⟩,
       ⟨some 25, .not, [.t 24], some (21, false)⟩,
       ⟨some 26, .pick, [.t 21, .k (.b true), .t 25], none⟩,
       ⟨some 27, .mv, [.t 26], none⟩,
       ⟨some 28, .mv, [.t 2], some (27, false)⟩,
       ⟨some 29, (.call g_impl_areNotLess), [.t 28], some (27, false)⟩,
       ⟨some 30, .not, [.t 29], some (27, false)⟩,
       ⟨some 31, .pick, [.t 27, .k (.b true), .t 30], none⟩,
       ⟨some 32, .mv, [.t 31], none⟩,
       ⟨some 33, .mv, [.t 9], some (32, false)⟩,
       ⟨some 34, (.bin .gtr), [.t 33, .k (.f .f32 0)], some (32, false)⟩,
       ⟨some 35, .not, [.t 34], some (32, false)⟩,
       ⟨some 36, .pick, [.t 32, .k (.b true), .t 35], none⟩])
      (.cond (.t 36)
       (.seq
        (.region false [
         ⟨some 6, .mv, [.k (.f .f32 0)], none⟩,
         ⟨some 7, .mv, [.k (.f .f32 0)], none⟩,
         ⟨some 8, .mv, [.k (.b false)], none⟩])
        .ret)
       .skip))
     (.seq
      (.region false [
       ⟨some 37, .mv, [.t 2], none⟩,
       ⟨some 38, .mv, [.t 0], none⟩,
       ⟨some 39, (.call g_impl_dot), [.t 37, .t 38], none⟩,
       ⟨some 40, .mv, [.t 9], none⟩,
       ⟨some 41, (.bin .quo), [.t 39, .t 40], none⟩,
       ⟨some 42, .mv, [.t 2], none⟩,
       ⟨some 43, .mv, [.t 1], none⟩,
       ⟨some 44, (.call g_impl_dot), [.t 42, .t 43], none⟩,
       ⟨some 45, .mv, [.t 9], none⟩,
       ⟨some 46, (.bin .quo), [.t 44, .t 45], none⟩,
       ⟨some 10, .mv, [.t 41], none⟩,
       ⟨some 11, .mv, [.t 46], none⟩])
      (.seq
       (.region false [
        ⟨some 47, .mv, [.t 0], none⟩,
        ⟨some 48, .mv, [.t 10], none⟩,
        ⟨some 49, (.call g_impl_lessOne), [.t 47, .t 48], none⟩,
        ⟨some 12, .mv, [.t 49], none⟩])
       (.seq
        (.region false [
         ⟨some 50, .mv, [.t 2], none⟩,
         ⟨some 51, .mv, [.t 12], none⟩,
         ⟨some 52, .mv, [.t 12], none⟩,
         ⟨some 53, (.call g_impl_weighed), [.t 50, .t 51, .t 52], none⟩,
         ⟨some 13, .mv, [.t 53], none⟩])
        (.seq
         (.seq
          (.region false [
           ⟨some 54, .mv, [.t 13], none⟩,
           ⟨some 55, (.bin .eql), [.t 54, .k (.f .f32 0)], none⟩])
          (.cond (.t 55)
           (.seq
            (.region false [
             ⟨some 6, .mv, [.k (.f .f32 0)], none⟩,
             ⟨some 7, .mv, [.k (.f .f32 0)], none⟩,
             ⟨some 8, .mv, [.k (.b false)], none⟩])
            .ret)
           .skip))
         (.seq
          (.region false [
           ⟨some 56, .mv, [.t 2], none⟩,
           ⟨some 57, .mv, [.t 12], none⟩,
           ⟨some 58, .mv, [.t 1], none⟩,
           ⟨some 59, .mv, [.t 11], none⟩,
           ⟨some 60, (.call g_impl_lessOne), [.t 58, .t 59], none⟩,
           ⟨some 61, (.call g_impl_weighed), [.t 56, .t 57, .t 60], none⟩,
           ⟨some 62, .mv, [.t 13], none⟩,
           ⟨some 63, (.bin .quo), [.t 61, .t 62], none⟩,
           ⟨some 14, .mv, [.t 63], none⟩])
          (.seq
           (.region false [
            ⟨some 64, .mv, [.t 11], none⟩,
            ⟨some 65, .mv, [.t 14], none⟩,
            ⟨some 66, .mv, [.t 10], none⟩,
            ⟨some 67, (.bin .mul), [.t 65, .t 66], none⟩,
            ⟨some 68, (.bin .sub), [.t 64, .t 67], none⟩,
            ⟨some 69, .mv, [.t 14], none⟩,
            ⟨some 70, (.call g_impl_ifTwo), [.t 68, .t 69], none⟩,
            ⟨some 71, (.extract 0), [.t 70], none⟩,
            ⟨some 72, (.extract 1), [.t 70], none⟩,
            ⟨some 73, (.extract 2), [.t 70], none⟩,
            ⟨some 6, .mv, [.t 71], none⟩,
            ⟨some 7, .mv, [.t 72], none⟩,
            ⟨some 8, .mv, [.t 73], none⟩])
           .ret)))))))))

abbrev Is_impl_WeightFit (P : Program) (g_f : FuncId) (g_impl_addUp g_impl_areTwo g_impl_areNotLess g_impl_dot g_impl_lessOne g_impl_weighed g_impl_ifTwo : FuncId) : Prop := FnIs P g_f 74 [.t 6, .t 7, .t 8] (b_impl_WeightFit g_impl_addUp g_impl_areTwo g_impl_areNotLess g_impl_dot g_impl_lessOne g_impl_weighed g_impl_ifTwo)

abbrev C_impl_WeightFit (P : Program) (g_f : FuncId) : Prop := ∀ (x : List Nat) (y : List Nat) (ws : List Nat) (hx : x.length ≤ maxLen) (hy : y.length ≤ maxLen) (hw : ws.length ≤ maxLen), VCall P g_f [PS [0] .f32 x, PS [1] .f32 y, PS [2] .f32 ws] (.tup [.f .f32 (if wfOk x y ws = true then wfBase x y ws else 0), .f .f32 (if wfOk x y ws = true then wfSlope x y ws else 0), .b (wfOk x y ws)])
def oc1_impl_WeightFit (as : List AV) : T AV := match as with | [.sl _ _ (.f .f32 x), .sl _ _ (.f .f32 y), .sl _ _ (.f .f32 ws)] => .leaf (.tup [.f .f32 (if wfOk x y ws = true then wfBase x y ws else 0), .f .f32 (if wfOk x y ws = true then wfSlope x y ws else 0), .b (wfOk x y ws)]) | _ => .fail
def oc_impl_WeightFit (x : List Nat) (y : List Nat) (ws : List Nat) (d : Nat) (as : List AV) : T AV := match d with | 16 => oc1_impl_addUp as | 19 => oc1_impl_areTwo as | 24 => oc1_impl_areTwo as | 29 => oc1_impl_areNotLess as | 39 => oc1_impl_dot as | 44 => oc1_impl_dot as | 49 => oc1_impl_lessOne as | 53 => oc1_impl_weighed as | 60 => oc1_impl_lessOne as | 61 => oc1_impl_weighed as | 70 => .leaf (.tup [.f .f32 (two1 (wfBase x y ws) (wfSlope x y ws)), .f .f32 (two2 (wfBase x y ws) (wfSlope x y ws)), .b (finM (wfBase x y ws) && finM (wfSlope x y ws))]) | _ => .fail



theorem q_impl_WeightFit {P : Program} {g_f : FuncId} {g_impl_addUp g_impl_areTwo g_impl_areNotLess g_impl_dot g_impl_lessOne g_impl_weighed g_impl_ifTwo : FuncId} (h_ : Is_impl_WeightFit P g_f g_impl_addUp g_impl_areTwo g_impl_areNotLess g_impl_dot g_impl_lessOne g_impl_weighed g_impl_ifTwo) (x : List Nat) (y : List Nat) (ws : List Nat) (ht : T.ok (fun x_ => x_ = .tup [.f .f32 (if wfOk x y ws = true then wfBase x y ws else 0), .f .f32 (if wfOk x y ws = true then wfSlope x y ws else 0), .b (wfOk x y ws)]) (
      T.ob ((VCall P) g_impl_addUp [AV.sl (Tag.par [0]) 0 (Cont.f FloatKind.f32 ws)] (AV.f FloatKind.f32 (sumM ws)))
        (T.ob ((VCall P) g_impl_areTwo [AV.sl (Tag.par [0]) 0 (Cont.f FloatKind.f32 x), AV.sl (Tag.par [1]) 0 (Cont.f FloatKind.f32 y)] (AV.b (twoM x y)))
          (T.ite (!twoM x y) (T.leaf (AV.tup [AV.f FloatKind.f32 0, AV.f FloatKind.f32 0, AV.b false]))
            (T.ob ((VCall P) g_impl_areTwo [AV.sl (Tag.par [0]) 0 (Cont.f FloatKind.f32 x), AV.sl (Tag.par [1]) 0 (Cont.f FloatKind.f32 ws)] (AV.b (twoM x ws)))
              (T.ite (!twoM x ws) (T.leaf (AV.tup [AV.f FloatKind.f32 0, AV.f FloatKind.f32 0, AV.b false]))
                (T.ob ((VCall P) g_impl_areNotLess [AV.sl (Tag.par [0]) 0 (Cont.f FloatKind.f32 ws)] (AV.b (notLessM ws)))
                  (T.ite (!notLessM ws) (T.leaf (AV.tup [AV.f FloatKind.f32 0, AV.f FloatKind.f32 0, AV.b false]))
                    (T.ite (!fgt FloatKind.f32 (sumM ws) 0) (T.leaf (AV.tup [AV.f FloatKind.f32 0, AV.f FloatKind.f32 0, AV.b false]))
                      (T.ob ((VCall P) g_impl_dot [AV.sl (Tag.par [0]) 0 (Cont.f FloatKind.f32 ws), AV.sl (Tag.par [1]) 0 (Cont.f FloatKind.f32 x)] (AV.f FloatKind.f32 (dotM ws x)))
                        (T.ob True
                          (T.ob ((VCall P) g_impl_dot [AV.sl (Tag.par [0]) 0 (Cont.f FloatKind.f32 ws), AV.sl (Tag.par [1]) 0 (Cont.f FloatKind.f32 y)] (AV.f FloatKind.f32 (dotM ws y)))
                            (T.ob True
                              (T.ob
                                ((VCall P) g_impl_lessOne [AV.sl (Tag.par [0]) 0 (Cont.f FloatKind.f32 x), AV.f FloatKind.f32 (fdiv FloatKind.f32 (dotM ws x) (sumM ws))]
                                  (AV.sl (Tag.own 0) 0 (Cont.f FloatKind.f32 (lessOneM x (fdiv FloatKind.f32 (dotM ws x) (sumM ws))))))
                                (T.ob
                                  ((VCall P) g_impl_weighed
                                    [AV.sl (Tag.par [0]) 0 (Cont.f FloatKind.f32 ws), AV.sl (Tag.par [1]) 0 (Cont.f FloatKind.f32 (lessOneM x (fdiv FloatKind.f32 (dotM ws x) (sumM ws)))),
                                      AV.sl (Tag.par [2]) 0 (Cont.f FloatKind.f32 (lessOneM x (fdiv FloatKind.f32 (dotM ws x) (sumM ws))))]
                                    (AV.f FloatKind.f32 (weighedM ws (lessOneM x (fdiv FloatKind.f32 (dotM ws x) (sumM ws))) (lessOneM x (fdiv FloatKind.f32 (dotM ws x) (sumM ws))))))
                                  (T.ite (feq FloatKind.f32 (weighedM ws (lessOneM x (fdiv FloatKind.f32 (dotM ws x) (sumM ws))) (lessOneM x (fdiv FloatKind.f32 (dotM ws x) (sumM ws)))) 0)
                                    (T.leaf (AV.tup [AV.f FloatKind.f32 0, AV.f FloatKind.f32 0, AV.b false]))
                                    (T.ob
                                      ((VCall P) g_impl_lessOne [AV.sl (Tag.par [0]) 0 (Cont.f FloatKind.f32 y), AV.f FloatKind.f32 (fdiv FloatKind.f32 (dotM ws y) (sumM ws))]
                                        (AV.sl (Tag.own 0) 0 (Cont.f FloatKind.f32 (lessOneM y (fdiv FloatKind.f32 (dotM ws y) (sumM ws))))))
                                      (T.ob
                                        ((VCall P) g_impl_weighed
                                          [AV.sl (Tag.par [0]) 0 (Cont.f FloatKind.f32 ws), AV.sl (Tag.par [1]) 0 (Cont.f FloatKind.f32 (lessOneM x (fdiv FloatKind.f32 (dotM ws x) (sumM ws)))),
                                            AV.sl (Tag.par [2]) 0 (Cont.f FloatKind.f32 (lessOneM y (fdiv FloatKind.f32 (dotM ws y) (sumM ws))))]
                                          (AV.f FloatKind.f32 (weighedM ws (lessOneM x (fdiv FloatKind.f32 (dotM ws x) (sumM ws))) (lessOneM y (fdiv FloatKind.f32 (dotM ws y) (sumM ws))))))
                                        (T.ob True
                                          (T.ob
                                            ((VCall P) g_impl_ifTwo
                                              [AV.f FloatKind.f32
                                                  (fsub FloatKind.f32 (fdiv FloatKind.f32 (dotM ws y) (sumM ws))
                                                    (fmul FloatKind.f32
                                                      (fdiv FloatKind.f32 (weighedM ws (lessOneM x (fdiv FloatKind.f32 (dotM ws x) (sumM ws))) (lessOneM y (fdiv FloatKind.f32 (dotM ws y) (sumM ws))))
                                                        (weighedM ws (lessOneM x (fdiv FloatKind.f32 (dotM ws x) (sumM ws))) (lessOneM x (fdiv FloatKind.f32 (dotM ws x) (sumM ws)))))
                                                      (fdiv FloatKind.f32 (dotM ws x) (sumM ws)))),
                                                AV.f FloatKind.f32
                                                  (fdiv FloatKind.f32 (weighedM ws (lessOneM x (fdiv FloatKind.f32 (dotM ws x) (sumM ws))) (lessOneM y (fdiv FloatKind.f32 (dotM ws y) (sumM ws))))
                                                    (weighedM ws (lessOneM x (fdiv FloatKind.f32 (dotM ws x) (sumM ws))) (lessOneM x (fdiv FloatKind.f32 (dotM ws x) (sumM ws)))))]
                                              (AV.tup
                                                [AV.f FloatKind.f32 (two1 (wfBase x y ws) (wfSlope x y ws)), AV.f FloatKind.f32 (two2 (wfBase x y ws) (wfSlope x y ws)), AV.b (finM (wfBase x y ws) && finM (wfSlope x y ws))]))
                                            (T.leaf
                                              (AV.tup
                                                [AV.f FloatKind.f32 (two1 (wfBase x y ws) (wfSlope x y ws)), AV.f FloatKind.f32 (two2 (wfBase x y ws) (wfSlope x y ws)),
                                                  AV.b (finM (wfBase x y ws) && finM (wfSlope x y ws))])))))))))))))))))))))) :
    VCall P g_f [PS [0] .f32 x, PS [1] .f32 y, PS [2] .f32 ws] (.tup [.f .f32 (if wfOk x y ws = true then wfBase x y ws else 0), .f .f32 (if wfOk x y ws = true then wfSlope x y ws else 0), .b (wfOk x y ws)]) := h_.call_of ps_impl_WeightFit ⟨oc_impl_WeightFit x y ws, fun _ _ => none⟩ (by kernel_rfl) ht

-- END impl_WeightFit


/-! ### steps -/
def squaresM (xs : List Nat) : Nat := dotM (lessOneM xs (meanM xs)) (lessOneM xs (meanM xs))
def stepSum (xs : List Nat) (i : Nat) : Nat := fadd .f32 (squaresM (xs.take i)) (squaresM (xs.drop i))
def stepAt (xs : List Nat) : Nat → Nat × Nat
  | 0 => (0, 0)
  | j + 1 => if ((stepAt xs j).1 == 0 || flt .f32 (stepSum xs (j + 1)) (stepAt xs j).2) = true then (j + 1, stepSum xs (j + 1)) else stepAt xs j
def stepBest (xs : List Nat) : Nat := (stepAt xs (xs.length - 1)).1
def stepBy (xs : List Nat) : Nat := fsub .f32 (meanM (xs.drop (stepBest xs))) (meanM (xs.take (stepBest xs)))
def stepFin (xs : List Nat) : Bool := allN (xs.length - 1) fun i => finM (stepSum xs (i + 1))
def stepOk (xs : List Nat) : Bool := seriesM xs && (decide (2 ≤ xs.length) && (stepFin xs && finM (stepBy xs)))







/-! ### seasons -/
def seasonM (xs : List Nat) (per : Nat) : List Nat := lessOneM (foldM xs per) (meanM (foldM xs per))
def seasonOk (xs : List Nat) (per : Int) : Bool := seriesM xs && (inM per 1 xs.length && finAllM (seasonM xs per.toNat))





/-! ### the best period -/
def bpSum (xs : List Nat) (per : Int) : Nat := leftM xs (foldM xs per.toNat)
def bpAt (xs : List Nat) (low : Int) : Nat → Int × Nat
  | 0 => (0, 0)
  | j + 1 => if ((bpAt xs low j).1 == 0 || flt .f32 (bpSum xs (low + j)) (bpAt xs low j).2) = true then (low + j, bpSum xs (low + j)) else bpAt xs low j
def bpN (low top : Int) : Nat := (top + 1 - low).toNat
def bpFin (xs : List Nat) (low top : Int) : Bool := allN (bpN low top) fun j => foldOk xs (low + j)
def bpOk (xs : List Nat) (low top w : Int) : Bool := seriesM xs && (inM low 2 top && (decide (top ≤ (xs.length / 2 : Nat)) && (inM w 1 8 && bpFin xs low top)))




theorem k_impl_weighed {P : Program} {f : FuncId} (h : Is_impl_weighed P f) : C_impl_weighed P f := by
  intro ws a b ha hb hx
  refine q_impl_weighed h ws a b ?_
  have hm := ml64 hx
  refine ⟨?_, fun _ => rfl⟩
  refine for_up (e := .exit 0) (ws.length) (fun i => h_impl_weighed_L0 ws a b (accN (fun i s => fadd .f32 s (fmul .f32 (fmul .f32 (ws.getD i 0) (a.getD i 0)) (b.getD i 0))) i 0) i) (by first | rfl | simp) (fun i hi => ?_) ?_
  · refine q_impl_weighed_L0 _ _ _ _ _ ?_
    repeat' (first | with_reducible refine T.ok_ob ?_ (fun _ => ?_) | with_reducible refine T.ok_ite (fun _ => ?_) (fun _ => ?_) | with_reducible refine T.ok_leaf ?_)
    all_goals (try simp only [decide_eq_true_eq, decide_eq_false_iff_not, Bool.not_eq_true', Bool.not_eq_false', Bool.not_eq_eq_eq_not, Bool.not_true, Bool.not_false, Int.toNat_natCast, tab_len, List.length_append, List.length_singleton, List.length_cons, List.length_nil, List.length_drop, List.length_take, getD_drop', getD_nat, reduceCtorEq] at *)
    all_goals (try simp (disch := omega) only [wrap64_id] at *)
    all_goals first | omega | (exfalso; omega) | trivial | contradiction | (exfalso; simp_all; done) | skip
    all_goals first | rfl | (rw [tab_succ]; rfl)
  · refine q_impl_weighed_L0 _ _ _ _ _ ?_
    repeat' (first | with_reducible refine T.ok_ob ?_ (fun _ => ?_) | with_reducible refine T.ok_ite (fun _ => ?_) (fun _ => ?_) | with_reducible refine T.ok_leaf ?_)
    all_goals (try simp only [decide_eq_true_eq, decide_eq_false_iff_not, Bool.not_eq_true', Bool.not_eq_false', Bool.not_eq_eq_eq_not, Bool.not_true, Bool.not_false, Int.toNat_natCast, tab_len, List.length_append, List.length_singleton, List.length_cons, List.length_nil, List.length_drop, List.length_take, getD_drop', getD_nat, reduceCtorEq] at *)
    all_goals (try simp (disch := omega) only [wrap64_id] at *)
    all_goals first | omega | (exfalso; omega) | trivial | contradiction | (exfalso; simp_all; done) | skip
    all_goals rfl
  repeat' (first | with_reducible refine T.ok_ob ?_ (fun _ => ?_) | with_reducible refine T.ok_ite (fun _ => ?_) (fun _ => ?_) | with_reducible refine T.ok_leaf ?_)
  all_goals first | with_reducible rfl | with_reducible assumption | contradiction | exact fconvOk_32_64 _ | assumption | exact rfl | (simp_all []; done) | (simp_all [T.ok]; omega)

theorem wf_eq {x y ws : List Nat} (h1 : twoM x y = true) (h2 : twoM x ws = true) (h3 : notLessM ws = true) (h4 : fgt .f32 (sumM ws) 0 = true) (h5 : feq .f32 (wfDown x ws) 0 = false) : wfOk x y ws = (finM (wfBase x y ws) && finM (wfSlope x y ws)) := by
  simp [wfOk, h1, h2, h3, h4, h5]
theorem k_impl_WeightFit {P : Program} {f g1 g2 g3 g4 g5 g6 g7 : FuncId} (h : Is_impl_WeightFit P f g1 g2 g3 g4 g5 g6 g7) (c1 : C_impl_addUp P g1) (c2 : C_impl_areTwo P g2) (c3 : C_impl_areNotLess P g3) (c4 : C_impl_dot P g4) (c5 : C_impl_lessOne P g5) (c6 : C_impl_weighed P g6) (c7 : C_impl_ifTwo P g7) : C_impl_WeightFit P f := by
  intro x y ws hx hy hw
  refine q_impl_WeightFit h x y ws ⟨c1 _ hw, fun _ => ⟨c2 _ _ hx hy, fun _ => ⟨fun h1 => ?_, fun h1 => ⟨c2 _ _ hx hw, fun _ => ⟨fun h2 => ?_, fun h2 => ⟨c3 _ hw, fun _ => ⟨fun h3 => ?_, fun h3 => ⟨fun h4 => ?_, fun h4 => ?_⟩⟩⟩⟩⟩⟩⟩⟩
  · simp at h1; simp [T.ok, wfOk, h1]
  · simp at h2; simp [T.ok, wfOk, h2]
  · simp at h3; simp [T.ok, wfOk, h3]
  · simp at h4; simp [T.ok, wfOk, h4]
  · simp only [Bool.not_eq_false'] at h1 h2 h3 h4
    have l1 := two_len h1
    have l2 := two_len h2
    have u1 := lessOne_len x (wfX x ws)
    have u2 := lessOne_len y (wfX y ws)
    refine ⟨c4 _ _ (by omega) hw, fun _ => ⟨trivial, fun _ => ⟨c4 _ _ (by omega) hw, fun _ => ⟨trivial, fun _ => ⟨c5 _ _ (by omega), fun _ => ⟨c6 _ (wfU x ws) (wfU x ws) (by unfold wfU; omega) (by unfold wfU; omega) hw, fun _ => ⟨fun h5 => ?_, fun h5 => ⟨c5 _ _ (by omega), fun _ => ⟨c6 _ (wfU x ws) (wfU y ws) (by unfold wfU; omega) (by unfold wfU; omega) hw, fun _ => ⟨trivial, fun _ => ⟨c7 (wfBase x y ws) (wfSlope x y ws), fun _ => ?_⟩⟩⟩⟩⟩⟩⟩⟩⟩⟩⟩
    · have h5 : feq .f32 (wfDown x ws) 0 = true := h5
      simp [T.ok, wfOk, h5]
    · have h5 : feq .f32 (wfDown x ws) 0 = false := h5
      simp only [T.ok, wf_eq h1 h2 h3 h4 h5, two1, two2]
theorem two_eq {x y : List Nat} : twoM x y = (seriesM x && (seriesM y && decide (x.length = y.length))) := by
  unfold twoM
  have : ((x.length : Int) == (y.length : Int)) = decide (x.length = y.length) := by
    rw [Bool.eq_iff_iff, beq_iff_eq, decide_eq_true_eq]; omega
  rw [this, Bool.and_assoc]
theorem step_le (xs : List Nat) : ∀ j, (stepAt xs j).1 ≤ j
  | 0 => Nat.le_refl _
  | j + 1 => by
    have := step_le xs j
    simp only [stepAt]
    split
    · exact Nat.le_refl _
    · omega
theorem step_pos (xs : List Nat) : ∀ j, 1 ≤ j → 1 ≤ (stepAt xs j).1
  | 0, h => by omega
  | j + 1, _ => by
    simp only [stepAt]
    split
    · simp
    · rename_i h
      simp at h; omega
theorem season_len (xs : List Nat) (per : Nat) : (seasonM xs per).length = per := by unfold seasonM; rw [lessOne_len, fold_len]
end Go.Proofs.LV
