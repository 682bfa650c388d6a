/- Folded periods, factors of a season. -/
import Derived.Test.YtjfgmnfkkehgfaaLvFnF
namespace Go.Proofs.LV
open Go
set_option linter.unusedVariables false
set_option linter.unusedSimpArgs false

/-- how many of p, p + per, .. lie below i -/
def cntM (i p per : Nat) : Nat := i / per + (if p < i % per then 1 else 0)
def fsumM (xs : List Nat) (per p n : Nat) : Nat := accN (fun j s => fadd .f32 s (xs.getD (p + j * per) 0)) n 0
def foldM (xs : List Nat) (per : Nat) : List Nat := tab per fun p => fdiv .f32 (fsumM xs per p (cntM xs.length p per)) (fofi .f32 (cntM xs.length p per))
theorem cnt_lt (n p per j : Nat) (hp : p < per) : j < cntM n p per ↔ p + j * per < n := by
  have h1 := Nat.div_add_mod n per
  have h2 := Nat.mod_lt n (show per > 0 by omega)
  unfold cntM
  generalize n / per = q at *
  generalize n % per = r at *
  have a := fun (x y : Nat) (h : x ≤ y) => Nat.mul_le_mul_right per h
  have hc := Nat.mul_comm per q
  split
  · constructor
    · intro h
      have := a j q (by omega); omega
    · intro h
      apply Decidable.byContradiction; intro h'
      have := a (q + 1) j (by omega)
      rw [Nat.succ_mul] at this; omega
  · constructor
    · intro h
      have := a (j + 1) q (by omega)
      rw [Nat.succ_mul] at this; omega
    · intro h
      apply Decidable.byContradiction; intro h'
      have := a q j (by omega); omega
theorem sum_tab (n : Nat) (f : Nat → Nat) : sumM (tab n f) = accN (fun j s => fadd .f32 s (f j)) n 0 := by
  unfold sumM
  rw [tab_len]
  exact accN_congr fun i x hi => by rw [tab_get _ _ _ _ hi]
theorem mean_tab (n : Nat) (f : Nat → Nat) : meanM (tab n f) = fdiv .f32 (accN (fun j s => fadd .f32 s (f j)) n 0) (fofi .f32 n) := by
  unfold meanM; rw [sum_tab, tab_len]
theorem tmod_nat (a b : Nat) : Int.tmod (a : Int) (b : Int) = ((a % b : Nat) : Int) := rfl
theorem fold_len (xs : List Nat) (per : Nat) : (foldM xs per).length = per := tab_len _ _

-- FN impl_folded
/-- impl.folded: slots 37, results [.t 4]; calls [32:g_impl_mean]; names [(list, 0), (period, 1), (list, 2), (period, 3), (out, 5), (p, 6), (part, 7), (i, 8)] -/
def ps_impl_folded : List Nat := [0, 1, 4, 5, 6, 7, 8, 10, 11, 12, 19]
def lv_impl_folded_L0 : List Nat := [0, 1, 5, 10, 11]
def lv_impl_folded_L2 : List Nat := [0, 1, 5, 7, 8, 10, 11]
def b_impl_folded_L2 (g_impl_mean : FuncId) : VCode :=
  (.seq
   (.seq
    (.region false [
     ⟨some 16, .mv, [.t 8], none⟩,
     ⟨some 17, .mv, [.t 0], none⟩,
     ⟨some 18, .len, [.t 17], none⟩,
     ⟨some 19, (.bin .lss), [.t 16, .t 18], none⟩])
    (.cond (.t 19)
     .skip
     (.exit 2)))
   (.seq
    (.block 3
     (.region false [
      ⟨some 23, .mv, [.t 7], none⟩,
      ⟨some 24, .mv, [.t 0], none⟩,
      ⟨some 25, .mv, [.t 8], none⟩,
      ⟨some 26, .iaddr, [.t 24, .t 25], none⟩,
      ⟨some 27, .load, [.t 26], none⟩,
      ⟨some 28, (.lit true (.f .f32 [])), [.t 27], none⟩,
      ⟨some 29, .app, [.t 23, .t 28], none⟩,
      ⟨some 7, .mv, [.t 29], none⟩]))
    (.region false [
     ⟨some 20, .mv, [.t 8], none⟩,
     ⟨some 21, .mv, [.t 1], none⟩,
     ⟨some 22, (.bin .add), [.t 20, .t 21], none⟩,
     ⟨some 8, .mv, [.t 22], none⟩])))

def b_impl_folded_L0 (g_impl_mean : FuncId) : VCode :=
  (.seq
   (.region false [
    ⟨some 12, (.bin .lss), [.t 11, .t 10], none⟩])
   (.seq
    (.cond (.t 12)
     .skip
     (.exit 0))
    (.seq
     (.block 1
      (.seq
       (.region false [
        ⟨some 13, .mv, [.t 11], none⟩,
        ⟨some 6, .mv, [.t 13], none⟩])
       (.seq
        (.region false [
         ⟨some 14, (.lit true (.f .f32 [])), [], none⟩,
         ⟨some 7, .mv, [.t 14], none⟩])
        (.seq
         (.seq
          (.region false [
           ⟨some 15, .mv, [.t 6], none⟩,
           ⟨some 8, .mv, [.t 15], none⟩])
          (.block 2 (.loop (b_impl_folded_L2 g_impl_mean))))
         (.region false [
          ⟨some 30, .mv, [.t 5], none⟩,
          ⟨some 31, .mv, [.t 7], none⟩,
          ⟨some 32, (.call g_impl_mean), [.t 31], none⟩,
          ⟨some 33, (.lit true (.f .f32 [])), [.t 32], none⟩,
          ⟨some 34, .app, [.t 30, .t 33], none⟩,
          ⟨some 5, .mv, [.t 34], none⟩])))))
     (.region false [
      ⟨some 35, (.bin .add), [.t 11, .k (.i .i64 1)], none⟩,
      ⟨some 11, .mv, [.t 35], none⟩]))))

def b_impl_folded (g_impl_mean : FuncId) : VCode :=
  (.seq
   (.region false [
    ⟨some 4, (.nilsl (.f .f32 [])), [], none⟩])
   (.seq
    (.region false [
     ⟨some 9, (.lit true (.f .f32 [])), [], none⟩,
     ⟨some 5, .mv, [.t 9], none⟩])
    (.seq
     (.seq
      (.region false [
       ⟨some 10, .mv, [.t 1], none⟩,
       ⟨some 11, .mv, [.k (.i .i64 0)], none⟩])
      (.block 0 (.loop (b_impl_folded_L0 g_impl_mean))))
     (.seq
      (.region false [
       ⟨some 36, .mv, [.t 5], none⟩,
       ⟨some 4, .mv, [.t 36], none⟩])
      .ret))))

abbrev Is_impl_folded (P : Program) (g_f : FuncId) (g_impl_mean : FuncId) : Prop := FnIs P g_f 37 [.t 4] (b_impl_folded g_impl_mean)

abbrev C_impl_folded (P : Program) (g_f : FuncId) : Prop := ∀ (xs : List Nat) (per : Int) (hp : 1 ≤ per ∧ per ≤ xs.length) (hx : xs.length ≤ 96), VCall P g_f [PS [0] .f32 xs, .i .i64 per] (OS 0 .f32 (foldM xs per.toNat))
def oc1_impl_folded (as : List AV) : T AV := match as with | [.sl _ _ (.f .f32 xs), .i .i64 per] => .leaf (OS 0 .f32 (foldM xs per.toNat)) | _ => .fail
def oc_impl_folded (xs : List Nat) (per : Int) (d : Nat) (as : List AV) : T AV := match d with | 32 => oc1_impl_mean as | _ => .fail
def h_impl_folded_L0 (xs : List Nat) (per : Int) (out : List Nat) (v11 : Int) : Env := [AV.sl (Tag.par [0]) 0 (Cont.f FloatKind.f32 xs), AV.i IntKind.i64 per, .any, .any, .any, .sl (Tag.own 72) 0 (.f FloatKind.f32 out)] ++ anys 4 ++ [AV.i IntKind.i64 per, .i IntKind.i64 v11] ++ anys 25
def h_impl_folded_L2 (xs : List Nat) (per : Int) (out : List Nat) (v11 : Int) (out2 : List Nat) (part : List Nat) (i : Int) : Env := [AV.sl (Tag.par [0]) 0 (Cont.f FloatKind.f32 xs), AV.i IntKind.i64 per, .any, .any, .any, .sl (Tag.own 72) 0 (.f FloatKind.f32 out2), .any, .sl (Tag.own 112) 0 (.f FloatKind.f32 part), .i IntKind.i64 i, .any, AV.i IntKind.i64 per, AV.i IntKind.i64 v11] ++ anys 25

theorem q_impl_folded_L0 {VC : FuncId → List AV → AV → Prop} {g_impl_mean : FuncId} (xs : List Nat) (per : Int) (out : List Nat) (v11 : Int) {e_ : Ex} {σ_ : Env} (ht : T.ok (fun x_ => x_ = (e_, σ_)) (
      T.ite (decide (v11 < per))
        (T.ob
          (Exec VC ps_impl_folded (VCode.block 2 (VCode.loop (b_impl_folded_L2 g_impl_mean))) (h_impl_folded_L2 xs per out v11 out [] v11) Ex.normal
            (h_impl_folded_L2 xs per out v11 out (tab (cntM (List.length xs) (Int.toNat v11) (Int.toNat per)) fun (j : Nat) => List.getD xs (Int.toNat v11 + j * Int.toNat per) 0)
              (↑(Int.toNat v11 + cntM (List.length xs) (Int.toNat v11) (Int.toNat per) * Int.toNat per) : Int)))
          (T.ob
            (VC g_impl_mean [AV.sl (Tag.par [0]) 0 (Cont.f FloatKind.f32 (tab (cntM (List.length xs) (Int.toNat v11) (Int.toNat per)) fun (j : Nat) => List.getD xs (Int.toNat v11 + j * Int.toNat per) 0))]
              (AV.f FloatKind.f32 (meanM (tab (cntM (List.length xs) (Int.toNat v11) (Int.toNat per)) fun (j : Nat) => List.getD xs (Int.toNat v11 + j * Int.toNat per) 0))))
            (T.ob (List.length out + List.length [meanM (tab (cntM (List.length xs) (Int.toNat v11) (Int.toNat per)) fun (j : Nat) => List.getD xs (Int.toNat v11 + j * Int.toNat per) 0)] ≤ 4294967296)
              (T.leaf
                (Ex.normal,
                  h_impl_folded_L0 xs per (out ++ [meanM (tab (cntM (List.length xs) (Int.toNat v11) (Int.toNat per)) fun (j : Nat) => List.getD xs (Int.toNat v11 + j * Int.toNat per) 0)])
                    (IntKind.wrap IntKind.i64 (v11 + 1)))))))
        (T.leaf (Ex.exit 0, h_impl_folded_L0 xs per out v11)))) :
    Exec VC ps_impl_folded (b_impl_folded_L0 g_impl_mean) (h_impl_folded_L0 xs per out v11) e_ σ_ := evL_of (lv := lv_impl_folded_L0) (rs := [4]) (O := ⟨oc_impl_folded xs per, fun id σ => match id with | 2 => some (lv_impl_folded_L2, .leaf (.normal, h_impl_folded_L2 xs per out v11 out (tab (cntM xs.length v11.toNat per.toNat) fun j => xs.getD (v11.toNat + j * per.toNat) 0) ((v11.toNat + cntM xs.length v11.toNat per.toNat * per.toNat : Nat) : Int))) | _ => none⟩) (by kernel_rfl) ht

theorem q_impl_folded_L2 {VC : FuncId → List AV → AV → Prop} {g_impl_mean : FuncId} (xs : List Nat) (per : Int) (out : List Nat) (v11 : Int) (out2 : List Nat) (part : List Nat) (i : Int) {e_ : Ex} {σ_ : Env} (ht : T.ok (fun x_ => x_ = (e_, σ_)) (
      T.ite (decide (i < (↑(List.length xs) : Int)))
        (T.ob (0 ≤ i ∧ i < (↑(List.length xs) : Int))
          (T.ob (List.length part + List.length [List.getD xs (Int.toNat i) 0] ≤ 4294967296)
            (T.leaf (Ex.normal, h_impl_folded_L2 xs per out v11 out2 (part ++ [List.getD xs (Int.toNat i) 0]) (IntKind.wrap IntKind.i64 (i + per))))))
        (T.leaf (Ex.exit 2, h_impl_folded_L2 xs per out v11 out2 part i)))) :
    Exec VC ps_impl_folded (b_impl_folded_L2 g_impl_mean) (h_impl_folded_L2 xs per out v11 out2 part i) e_ σ_ := evL_of (lv := lv_impl_folded_L2) (rs := [4]) (O := ⟨oc_impl_folded xs per, fun _ _ => none⟩) (by kernel_rfl) ht

theorem q_impl_folded {P : Program} {g_f : FuncId} {g_impl_mean : FuncId} (h_ : Is_impl_folded P g_f g_impl_mean) (xs : List Nat) (per : Int) (ht : T.ok (fun x_ => x_ = OS 0 .f32 (foldM xs per.toNat)) (
      T.ob (Exec (VCall P) ps_impl_folded (VCode.block 0 (VCode.loop (b_impl_folded_L0 g_impl_mean))) (h_impl_folded_L0 xs per [] 0) Ex.normal (h_impl_folded_L0 xs per (foldM xs (Int.toNat per)) per))
        (T.leaf (AV.sl (Tag.own 0) 0 (Cont.f FloatKind.f32 (foldM xs (Int.toNat per))))))) :
    VCall P g_f [PS [0] .f32 xs, .i .i64 per] (OS 0 .f32 (foldM xs per.toNat)) := h_.call_of ps_impl_folded ⟨oc_impl_folded xs per, fun id σ => match id with | 0 => some (lv_impl_folded_L0, .leaf (.normal, h_impl_folded_L0 xs per (foldM xs per.toNat) per)) | _ => none⟩ (by kernel_rfl) ht

-- END impl_folded



-- FN impl_isPeriodOf
/-- impl.isPeriodOf: slots 13, results [.t 4]; calls [6:g_impl_IsSeries, 11:g_impl_within]; names [(list, 0), (period, 1), (list, 2), (period, 3)] -/
def ps_impl_isPeriodOf : List Nat := [0, 1, 4]
def b_impl_isPeriodOf (g_impl_IsSeries g_impl_within : FuncId) : VCode :=
  (.seq
   (.region false [
    ⟨some 4, .mv, [.k (.b false)], none⟩])
   (.seq
    (.region false [
     ⟨some 5, .mv, [.t 0], none⟩,
     ⟨some 6, (.call g_impl_IsSeries), [.t 5], none⟩,
     ⟨some 7, .mv, [.t 6], none⟩,
     ⟨some 8, .mv, [.t 1], some (7, true)⟩,
     ⟨some 9, .mv, [.t 0], some (7, true)⟩,
     ⟨some 10, .len, [.t 9], some (7, true)⟩,
     ⟨some 11, (.call g_impl_within), [.t 8, .k (.i .i64 1), .t 10], some (7, true)⟩,
     ⟨some 12, .pick, [.t 7, .t 11, .k (.b false)], none⟩,
     ⟨some 4, .mv, [.t 12], none⟩])
    .ret))

abbrev Is_impl_isPeriodOf (P : Program) (g_f : FuncId) (g_impl_IsSeries g_impl_within : FuncId) : Prop := FnIs P g_f 13 [.t 4] (b_impl_isPeriodOf g_impl_IsSeries g_impl_within)

abbrev C_impl_isPeriodOf (P : Program) (g_f : FuncId) : Prop := ∀ (xs : List Nat) (per : Int) (hx : xs.length ≤ maxLen), VCall P g_f [PS [0] .f32 xs, .i .i64 per] (.b (seriesM xs && inM per 1 xs.length))
def oc1_impl_isPeriodOf (as : List AV) : T AV := match as with | [.sl _ _ (.f .f32 xs), .i .i64 per] => .leaf (.b (seriesM xs && inM per 1 xs.length)) | _ => .fail
def oc_impl_isPeriodOf (xs : List Nat) (per : Int) (d : Nat) (as : List AV) : T AV := match d with | 6 => oc1_impl_IsSeries as | 11 => oc1_impl_within as | _ => .fail



theorem q_impl_isPeriodOf {P : Program} {g_f : FuncId} {g_impl_IsSeries g_impl_within : FuncId} (h_ : Is_impl_isPeriodOf P g_f g_impl_IsSeries g_impl_within) (xs : List Nat) (per : Int) (ht : T.ok (fun x_ => x_ = .b (seriesM xs && inM per 1 xs.length)) (
      T.ob ((VCall P) g_impl_IsSeries [AV.sl (Tag.par [0]) 0 (Cont.f FloatKind.f32 xs)] (AV.b (seriesM xs)))
        (T.ite (seriesM xs)
          (T.ob ((VCall P) g_impl_within [AV.i IntKind.i64 per, AV.i IntKind.i64 1, AV.i IntKind.i64 (↑(List.length xs) : Int)] (AV.b (inM per 1 (↑(List.length xs) : Int)))) (T.leaf (AV.b (inM per 1 (↑(List.length xs) : Int)))))
          (T.leaf (AV.b false))))) :
    VCall P g_f [PS [0] .f32 xs, .i .i64 per] (.b (seriesM xs && inM per 1 xs.length)) := h_.call_of ps_impl_isPeriodOf ⟨oc_impl_isPeriodOf xs per, fun _ _ => none⟩ (by kernel_rfl) ht

-- END impl_isPeriodOf




theorem cnt_le (n p per : Nat) (hp : p < per) (hn : n ≤ 96) : cntM n p per ≤ 96 := by
  have := cnt_lt n p per 96 (by omega)
  apply Decidable.byContradiction; intro h'
  have := this.1 (by omega)
  have := Nat.le_mul_of_pos_right 96 (show 0 < per by omega)
  omega
theorem k_impl_folded {P : Program} {f g : FuncId} (h : Is_impl_folded P f g) (c1 : C_impl_mean P g) : C_impl_folded P f := by
  intro xs per hp hx
  obtain ⟨k, rfl⟩ : ∃ k : Nat, per = k := ⟨per.toNat, by omega⟩
  have inner : ∀ (p : Nat) (O : List Nat), p < k → Exec (VCall P) ps_impl_folded (.block 2 (.loop (b_impl_folded_L2 g))) (h_impl_folded_L2 xs k O p O [] p) .normal (h_impl_folded_L2 xs k O p O (tab (cntM xs.length p k) fun j => xs.getD (p + j * k) 0) (p + cntM xs.length p k * k : Nat)) := by
    intro p O hpk
    have hcl := cnt_le xs.length p k hpk hx
    refine for_up (e := .exit 2) (cntM xs.length p k) (fun j => h_impl_folded_L2 xs k O p O (tab j fun j => xs.getD (p + j * k) 0) (p + j * k : Nat)) (by simp only [Nat.zero_mul]; rfl) (fun j hj => ?_) ?_
    · have hl := (cnt_lt xs.length p k j (by omega)).1 hj
      have e : ((p + j * k : Nat) : Int) + k = ((p + (j + 1) * k : Nat) : Int) := by rw [Nat.succ_mul]; omega
      refine q_impl_folded_L2 _ _ _ _ _ _ _ ?_
      rw [e, wrap64_id (by omega) (by rw [← e]; omega)]
      generalize p + (j + 1) * k = i2
      have e3 : tab (j + 1) (fun j => xs.getD (p + j * k) 0) = tab j (fun j => xs.getD (p + j * k) 0) ++ [xs.getD (p + j * k) 0] := tab_succ _ _
      rw [e3]
      have hj2 : j < 97 := by omega
      generalize p + j * k = i1 at *
      repeat' (first | with_reducible refine T.ok_ob ?_ (fun _ => ?_) | with_reducible refine T.ok_ite (fun _ => ?_) (fun _ => ?_) | with_reducible refine T.ok_leaf ?_)
      all_goals (try simp only [decide_eq_true_eq, decide_eq_false_iff_not, Bool.not_eq_true', Bool.not_eq_false', Bool.not_eq_eq_eq_not, Bool.not_true, Bool.not_false, Int.toNat_natCast, tab_len, List.length_append, List.length_singleton, List.length_cons, List.length_nil, List.length_drop, List.length_take, getD_drop', getD_nat, reduceCtorEq] at *)
      all_goals (try simp (disch := omega) only [wrap64_id] at *)
      all_goals first | omega | (exfalso; omega) | trivial | contradiction | (exfalso; simp_all; done) | skip
      all_goals rfl
    · have hl : ¬ (p + cntM xs.length p k * k < xs.length) := fun h => absurd ((cnt_lt xs.length p k _ (by omega)).2 h) (by omega)
      refine q_impl_folded_L2 _ _ _ _ _ _ _ ?_
      generalize p + cntM xs.length p k * k = i1 at *
      repeat' (first | with_reducible refine T.ok_ob ?_ (fun _ => ?_) | with_reducible refine T.ok_ite (fun _ => ?_) (fun _ => ?_) | with_reducible refine T.ok_leaf ?_)
      all_goals (try simp only [decide_eq_true_eq, decide_eq_false_iff_not, Bool.not_eq_true', Bool.not_eq_false', Bool.not_eq_eq_eq_not, Bool.not_true, Bool.not_false, Int.toNat_natCast, tab_len, List.length_append, List.length_singleton, List.length_cons, List.length_nil, List.length_drop, List.length_take, getD_drop', getD_nat, reduceCtorEq] at *)
      all_goals (try simp (disch := omega) only [wrap64_id] at *)
      all_goals first | omega | (exfalso; omega) | trivial | contradiction | (exfalso; simp_all; done) | skip
      all_goals rfl
  refine q_impl_folded h xs _ ?_
  rw [Int.toNat_natCast]
  refine ⟨?_, fun _ => rfl⟩
  refine for_up (e := .exit 0) k (fun p => h_impl_folded_L0 xs k (tab p fun p => fdiv .f32 (fsumM xs k p (cntM xs.length p k)) (fofi .f32 (cntM xs.length p k))) p) rfl (fun p hpk => ?_) ?_
  · refine q_impl_folded_L0 _ _ _ _ ?_
    simp only [Int.toNat_natCast]
    have hcl := cnt_le xs.length p k hpk hx
    repeat' (first | with_reducible refine T.ok_ob ?_ (fun _ => ?_) | with_reducible refine T.ok_ite (fun _ => ?_) (fun _ => ?_) | with_reducible refine T.ok_leaf ?_)
    all_goals (try simp only [decide_eq_true_eq, decide_eq_false_iff_not, Bool.not_eq_true', Bool.not_eq_false', Bool.not_eq_eq_eq_not, Bool.not_true, Bool.not_false, Int.toNat_natCast, tab_len, List.length_append, List.length_singleton, List.length_cons, List.length_nil, List.length_drop, List.length_take, getD_drop', getD_nat, reduceCtorEq] at *)
    all_goals (try simp (disch := omega) only [wrap64_id] at *)
    all_goals first | omega | (exfalso; omega) | trivial | contradiction | (exfalso; simp_all; done) | skip
    · exact inner p _ hpk
    · exact c1 _ (by rw [tab_len, maxLen_eq]; omega)
    · rw [mean_tab, tab_succ]; rfl
  · refine q_impl_folded_L0 _ _ _ _ ?_
    repeat' (first | with_reducible refine T.ok_ob ?_ (fun _ => ?_) | with_reducible refine T.ok_ite (fun _ => ?_) (fun _ => ?_) | with_reducible refine T.ok_leaf ?_)
    all_goals (try simp only [decide_eq_true_eq, decide_eq_false_iff_not, Bool.not_eq_true', Bool.not_eq_false', Bool.not_eq_eq_eq_not, Bool.not_true, Bool.not_false, Int.toNat_natCast, tab_len, List.length_append, List.length_singleton, List.length_cons, List.length_nil, List.length_drop, List.length_take, getD_drop', getD_nat, reduceCtorEq] at *)
    all_goals (try simp (disch := omega) only [wrap64_id] at *)
    all_goals first | omega | (exfalso; omega) | trivial | contradiction | (exfalso; simp_all; done) | skip
    all_goals rfl
theorem k_impl_isPeriodOf {P : Program} {f g_impl_IsSeries g_impl_within : FuncId} (h : Is_impl_isPeriodOf P f g_impl_IsSeries g_impl_within) (c1 : C_impl_IsSeries P g_impl_IsSeries) (c2 : C_impl_within P g_impl_within) : C_impl_isPeriodOf P f := by
  intro xs per hx
  refine q_impl_isPeriodOf h xs per ?_
  repeat' (first | with_reducible refine T.ok_ob ?_ (fun _ => ?_) | with_reducible refine T.ok_ite (fun _ => ?_) (fun _ => ?_) | with_reducible refine T.ok_leaf ?_)
  all_goals first | with_reducible rfl | with_reducible assumption | ((with_reducible refine c1 _ ?_) <;> (first | assumption | omega | with_reducible rfl | (simp [maxLen_eq]; done) | (simp [maxLen_eq]; omega))) | with_reducible exact c2 _ _ _ | contradiction | exact fconvOk_32_64 _ | assumption | exact rfl | (simp_all []; done) | (simp_all [T.ok]; omega)

theorem in_1 {per : Int} {n : Nat} (h : inM per 1 n = true) : 1 ≤ per ∧ per ≤ n := by simpa [inM] using h
end Go.Proofs.LV
