/- Sorting by sinking, as the reference does it. -/
import Derived.Test.YtdjjpckpcfkgiaaLvFnS
import Derived.Test.YtdjjpckpcfkgiaaLvHalf
namespace Go.Proofs.LV
open Go
set_option linter.unusedVariables false
set_option linter.unusedSimpArgs false

-- FN spec_l03Sorted
/-- spec.l03Sorted: slots 51, results [.t 2]; calls []; names [(a, 0), (a, 1), (out, 3), (i, 4), (k, 5), (x, 6)] -/
def ps_spec_l03Sorted : List Nat := [0, 2, 3, 4, 5, 6, 11, 12, 13, 29]
def lv_spec_l03Sorted_L0 : List Nat := [3, 11, 12]
def lv_spec_l03Sorted_L2 : List Nat := [3, 5, 11, 12]
def b_spec_l03Sorted_L2 : VCode :=
  (.seq
   (.seq
    (.region true [
     ⟨some 16, .mv, [.t 5], none⟩,
     ⟨some 17, (.bin .gtr), [.t 16, .k (.i .i64 0)], none⟩,
     ⟨some 18, .mv, [.t 17], none⟩,
     ⟨some 19, .mv, [.t 3], some (18, true)⟩,
     ⟨some 20, .mv, [.t 5], some (18, true)⟩,
     ⟨some 21, .iaddr, [.t 19, .t 20], some (18, true)⟩,
     ⟨some 22, .load, [.t 21], some (18, true)⟩,
     ⟨some 23, .mv, [.t 3], some (18, true)⟩,
     ⟨some 24, .mv, [.t 5], some (18, true)⟩,
     ⟨some 25, (.bin .sub), [.t 24, .k (.i .i64 1)], some (18, true)⟩,
     ⟨some 26, .iaddr, [.t 23, .t 25], some (18, true)⟩,
     ⟨some 27, .load, [.t 26], some (18, true)⟩,
     ⟨some 28, (.bin .lss), [.t 22, .t 27], some (18, true)⟩,
     ⟨some 29, .pick, [.t 18, .t 28, .k (.b false)], none⟩])
    (.cond (.t 29)
     .skip
     (.exit 2)))
   (.seq
    (.block 3
     (.seq
      (.region false [
       ⟨some 32, .mv, [.t 3], none⟩,
       ⟨some 33, .mv, [.t 5], none⟩,
       ⟨some 34, .iaddr, [.t 32, .t 33], none⟩,
       ⟨some 35, .load, [.t 34], none⟩,
       ⟨some 6, .mv, [.t 35], none⟩])
      (.seq
       (.region false [
        ⟨some 36, .mv, [.t 3], none⟩,
        ⟨some 37, .mv, [.t 5], none⟩,
        ⟨some 38, .mv, [.t 3], none⟩,
        ⟨some 39, .mv, [.t 5], none⟩,
        ⟨some 40, (.bin .sub), [.t 39, .k (.i .i64 1)], none⟩,
        ⟨some 41, .iaddr, [.t 38, .t 40], none⟩,
        ⟨some 42, .load, [.t 41], none⟩,
        ⟨some 43, .iaddr, [.t 36, .t 37], none⟩,
        ⟨none, .store, [.t 43, .t 42], none⟩])
       (.region false [
        ⟨some 44, .mv, [.t 3], none⟩,
        ⟨some 45, .mv, [.t 5], none⟩,
        ⟨some 46, (.bin .sub), [.t 45, .k (.i .i64 1)], none⟩,
        ⟨some 47, .mv, [.t 6], none⟩,
        ⟨some 48, .iaddr, [.t 44, .t 46], none⟩,
        ⟨none, .store, [.t 48, .t 47], none⟩]))))
    (.region false [
     ⟨some 30, .mv, [.t 5], none⟩,
     ⟨some 31, (.bin .sub), [.t 30, .k (.i .i64 1)], none⟩,
     ⟨some 5, .mv, [.t 31], none⟩])))

def b_spec_l03Sorted_L0 : VCode :=
  (.seq
   (.region false [
    ⟨some 13, (.bin .lss), [.t 12, .t 11], none⟩])
   (.seq
    (.cond (.t 13)
     .skip
     (.exit 0))
    (.seq
     (.block 1
      (.seq
       (.region false [
        ⟨some 14, .mv, [.t 12], none⟩,
        ⟨some 4, .mv, [.t 14], none⟩])
       (.seq
        (.region false [
         ⟨some 15, .mv, [.t 4], none⟩,
         ⟨some 5, .mv, [.t 15], none⟩])
        (.block 2 (.loop b_spec_l03Sorted_L2)))))
     (.region false [
      ⟨some 49, (.bin .add), [.t 12, .k (.i .i64 1)], none⟩,
      ⟨some 12, .mv, [.t 49], none⟩]))))

def b_spec_l03Sorted : VCode :=
  (.seq
   (.region false [
    ⟨some 2, (.nilsl (.f .f32 [])), [], none⟩])
   (.seq
    (.region false [
     ⟨some 7, (.nilsl (.f .f32 [])), [], none⟩,
     ⟨some 8, .mv, [.t 0], none⟩,
     ⟨some 9, .arr, [.t 7, .t 8], none⟩,
     ⟨some 3, .mv, [.t 9], none⟩])
    (.seq
     (.seq
      (.region false [
       ⟨some 10, .mv, [.t 3], none⟩,
       ⟨some 11, .len, [.t 10], none⟩,
       ⟨some 12, .mv, [.k (.i .i64 0)], none⟩])
      (.block 0 (.loop b_spec_l03Sorted_L0)))
     (.seq
      (.region false [
       ⟨some 50, .mv, [.t 3], none⟩,
       ⟨some 2, .mv, [.t 50], none⟩])
      .ret))))

abbrev Is_spec_l03Sorted (P : Program) (g_f : FuncId) : Prop := FnIs P g_f 51 [.t 2] (b_spec_l03Sorted)

abbrev C_spec_l03Sorted (P : Program) (g_f : FuncId) : Prop := ∀ (a : List Nat) (hN : okM a) (hx : a.length ≤ 5000), VCall P g_f [PS [0] .f32 a] (OS 0 .f32 (sortM KS a))
def oc1_spec_l03Sorted (as : List AV) : T AV := match as with | [.sl _ _ (.f .f32 a)] => .leaf (OS 0 .f32 (sortM KS a)) | _ => .fail
def h_spec_l03Sorted_L0 (a : List Nat) (out : List Nat) (v12 : Int) : Env := [.any, .any, .any, .sl (Tag.own 72) 0 (.f FloatKind.f32 out)] ++ anys 7 ++ [AV.i IntKind.i64 (↑(List.length a) : Int), .i IntKind.i64 v12] ++ anys 38
def h_spec_l03Sorted_L2 (a : List Nat) (out : List Nat) (v12 : Int) (out2 : List Nat) (k : Int) : Env := [.any, .any, .any, .sl (Tag.own 72) 0 (.f FloatKind.f32 out2), .any, .i IntKind.i64 k] ++ anys 5 ++ [AV.i IntKind.i64 (↑(List.length a) : Int), AV.i IntKind.i64 v12] ++ anys 38

theorem q_spec_l03Sorted_L0 {VC : FuncId → List AV → AV → Prop} (a : List Nat) (out : List Nat) (v12 : Int) {e_ : Ex} {σ_ : Env} (ht : T.ok (fun x_ => x_ = (e_, σ_)) (
      T.ite (decide (v12 < (↑(List.length a) : Int)))
        (T.ob (Exec VC ps_spec_l03Sorted (VCode.block 2 (VCode.loop b_spec_l03Sorted_L2)) (h_spec_l03Sorted_L2 a out v12 out v12) Ex.normal (h_spec_l03Sorted_L0 a (sink KS 0 (Int.toNat v12) out) v12))
          (T.leaf (Ex.normal, h_spec_l03Sorted_L0 a (sink KS 0 (Int.toNat v12) out) (IntKind.wrap IntKind.i64 (v12 + 1)))))
        (T.leaf (Ex.exit 0, h_spec_l03Sorted_L0 a out v12)))) :
    Exec VC ps_spec_l03Sorted (b_spec_l03Sorted_L0) (h_spec_l03Sorted_L0 a out v12) e_ σ_ := evL_of (lv := lv_spec_l03Sorted_L0) (rs := [2]) (O := ⟨fun _ _ => .fail, fun id σ => match id with | 2 => some (lv_spec_l03Sorted_L2, .leaf (.normal, Env.clear [3, 11, 12] (h_spec_l03Sorted_L2 a out v12 (sink KS 0 v12.toNat out) 0))) | _ => none⟩) (by kernel_rfl) ht

theorem q_spec_l03Sorted_L2 {VC : FuncId → List AV → AV → Prop} (a : List Nat) (out : List Nat) (v12 : Int) (out2 : List Nat) (k : Int) {e_ : Ex} {σ_ : Env} (ht : T.ok (fun x_ => x_ = (e_, σ_)) (
      T.ite (decide (k > 0))
        (T.ob (0 ≤ k ∧ k < (↑(List.length out2) : Int))
          (T.ob (0 ≤ IntKind.wrap IntKind.i64 (k - 1) ∧ IntKind.wrap IntKind.i64 (k - 1) < (↑(List.length out2) : Int))
            (T.ite (flt FloatKind.f32 (List.getD out2 (Int.toNat k) 0) (List.getD out2 (Int.toNat (IntKind.wrap IntKind.i64 (k - 1))) 0))
              (T.ob (0 ≤ k ∧ k < (↑(List.length out2) : Int))
                (T.ob (0 ≤ IntKind.wrap IntKind.i64 (k - 1) ∧ IntKind.wrap IntKind.i64 (k - 1) < (↑(List.length out2) : Int))
                  (T.ob (0 ≤ k ∧ k < (↑(List.length out2) : Int))
                    (T.ob (false = false)
                      (T.ob
                        (0 ≤ IntKind.wrap IntKind.i64 (k - 1) ∧ IntKind.wrap IntKind.i64 (k - 1) < (↑(List.length (List.set out2 (0 + Int.toNat k - 0) (List.getD out2 (Int.toNat (IntKind.wrap IntKind.i64 (k - 1))) 0))) : Int))
                        (T.ob (false = false)
                          (T.leaf
                            (Ex.normal,
                              h_spec_l03Sorted_L2 a out v12
                                (List.set (List.set out2 (0 + Int.toNat k - 0) (List.getD out2 (Int.toNat (IntKind.wrap IntKind.i64 (k - 1))) 0)) (0 + Int.toNat (IntKind.wrap IntKind.i64 (k - 1)) - 0)
                                  (List.getD out2 (Int.toNat k) 0))
                                (IntKind.wrap IntKind.i64 (k - 1))))))))))
              (T.leaf (Ex.exit 2, h_spec_l03Sorted_L2 a out v12 out2 k)))))
        (T.leaf (Ex.exit 2, h_spec_l03Sorted_L2 a out v12 out2 k)))) :
    Exec VC ps_spec_l03Sorted (b_spec_l03Sorted_L2) (h_spec_l03Sorted_L2 a out v12 out2 k) e_ σ_ := evL_of (lv := lv_spec_l03Sorted_L2) (rs := [2]) (O := ⟨fun _ _ => .fail, fun _ _ => none⟩) (by kernel_rfl) ht

theorem q_spec_l03Sorted {P : Program} {g_f : FuncId} (h_ : Is_spec_l03Sorted P g_f) (a : List Nat) (ht : T.ok (fun x_ => x_ = OS 0 .f32 (sortM KS a)) (
      T.ob (List.length a ≤ 4294967296)
        (T.ob (Exec (VCall P) ps_spec_l03Sorted (VCode.block 0 (VCode.loop b_spec_l03Sorted_L0)) (h_spec_l03Sorted_L0 a a 0) Ex.normal (h_spec_l03Sorted_L0 a (sortM KS a) (↑(List.length a) : Int)))
          (T.leaf (AV.sl (Tag.own 0) 0 (Cont.f FloatKind.f32 (sortM KS a))))))) :
    VCall P g_f [PS [0] .f32 a] (OS 0 .f32 (sortM KS a)) := h_.call_of ps_spec_l03Sorted ⟨fun _ _ => .fail, fun id σ => match id with | 0 => some (lv_spec_l03Sorted_L0, .leaf (.normal, h_spec_l03Sorted_L0 a (sortM KS a) a.length)) | _ => none⟩ (by kernel_rfl) ht

-- END spec_l03Sorted



theorem k_spec_l03Sorted {P : Program} {f : FuncId} (h : Is_spec_l03Sorted P f) : C_spec_l03Sorted P f := by
  intro xs hN hx
  have inner : ∀ (i : Nat) (j : Nat) (D l : List Nat), l.length = xs.length → okM l → j < xs.length → ∃ j' : Int, Exec (VCall P) ps_spec_l03Sorted (.loop b_spec_l03Sorted_L2)
      (h_spec_l03Sorted_L2 xs D i l j) (.exit 2) (h_spec_l03Sorted_L2 xs D i (sink KS 0 j l) j') := by
    intro i j
    induction j with
    | zero =>
      intro D l hl ho hj
      refine ⟨((0 : Nat) : Int), Exec.loopX (q_spec_l03Sorted_L2 _ _ _ _ _ ?_) (by simp)⟩
      repeat' (first | with_reducible refine T.ok_ob ?_ (fun _ => ?_) | with_reducible refine T.ok_ite (fun _ => ?_) (fun _ => ?_) | with_reducible refine T.ok_leaf ?_)
      all_goals (try simp only [decide_eq_true_eq, decide_eq_false_iff_not, Bool.not_eq_true', Bool.not_eq_false', Bool.not_eq_eq_eq_not, Bool.not_true, Bool.not_false, Int.toNat_natCast, tab_len, List.length_append, List.length_singleton, List.length_cons, List.length_nil, List.length_drop, List.length_take, getD_drop', getD_nat, reduceCtorEq] at *)
      all_goals (try simp (disch := omega) only [wrap64_id] at *)
      all_goals first | omega | (exfalso; omega) | exact True.intro | skip
      all_goals rfl
    | succ j ih =>
      intro D l hl ho hj
      have ew : IntKind.wrap .i64 (((j + 1 : Nat) : Int) - 1) = (j : Nat) := by rw [wrap64_id (by omega) (by omega)]; omega
      have ef : flt .f32 (l.getD (j + 1) 0) (l.getD j 0) = decide (KS (l.getD (j + 1) 0) < KS (l.getD j 0)) := by rw [flt_eq, ho, ho]; rfl
      by_cases hc : KS (l.getD (j + 1) 0) < KS (l.getD j 0)
      · obtain ⟨j', hj'⟩ := ih D (swp l (j + 1) j) (by rw [swp_len]; exact hl) (ok_swp ho (by omega) (by omega)) (by omega)
        have e : sink KS 0 (j + 1) l = sink KS 0 j (swp l (j + 1) j) := by rw [sink, if_pos ⟨by omega, hc⟩]
        rw [e]
        refine ⟨j', Exec.loopN (q_spec_l03Sorted_L2 _ _ _ _ _ ?_) hj'⟩
        rw [ew]
        simp only [Int.toNat_natCast, Nat.zero_add, Nat.sub_zero]
        have es : (l.set (j + 1) (l.getD j 0)).set j (l.getD (j + 1) 0) = swp l (j + 1) j := by
          first | rfl | (unfold swp; rfl) | exact List.set_comm _ _ (by omega)
        rw [ef, decide_eq_true hc, es]
        repeat' (first | with_reducible refine T.ok_ob ?_ (fun _ => ?_) | with_reducible refine T.ok_ite (fun _ => ?_) (fun _ => ?_) | with_reducible refine T.ok_leaf ?_)
        all_goals (try simp only [decide_eq_true_eq, decide_eq_false_iff_not, Bool.not_eq_true', Bool.not_eq_false', Bool.not_eq_eq_eq_not, Bool.not_true, Bool.not_false, Int.toNat_natCast, tab_len, List.length_append, List.length_singleton, List.length_cons, List.length_nil, List.length_drop, List.length_take, getD_drop', getD_nat, reduceCtorEq] at *)
        all_goals (try simp (disch := omega) only [wrap64_id] at *)
        all_goals first | omega | (exfalso; omega) | exact True.intro | skip
        all_goals first | rfl | (simp; omega)
      · have e : sink KS 0 (j + 1) l = l := by rw [sink, if_neg (fun h => hc h.2)]
        rw [e]
        refine ⟨((j + 1 : Nat) : Int), Exec.loopX (q_spec_l03Sorted_L2 _ _ _ _ _ ?_) (by simp)⟩
        rw [ew]
        simp only [Int.toNat_natCast, Nat.zero_add, Nat.sub_zero]
        rw [ef, decide_eq_false hc]
        repeat' (first | with_reducible refine T.ok_ob ?_ (fun _ => ?_) | with_reducible refine T.ok_ite (fun _ => ?_) (fun _ => ?_) | with_reducible refine T.ok_leaf ?_)
        all_goals (try simp only [decide_eq_true_eq, decide_eq_false_iff_not, Bool.not_eq_true', Bool.not_eq_false', Bool.not_eq_eq_eq_not, Bool.not_true, Bool.not_false, Int.toNat_natCast, tab_len, List.length_append, List.length_singleton, List.length_cons, List.length_nil, List.length_drop, List.length_take, getD_drop', getD_nat, reduceCtorEq] at *)
        all_goals (try simp (disch := omega) only [wrap64_id] at *)
        all_goals first | omega | (exfalso; omega) | exact True.intro | skip
        all_goals rfl
  have sl := fun i (h2 : i ≤ xs.length) => srt_rel (K := KS) (l := xs) (a := 0) (b := i) (by omega) h2
  have main : Exec (VCall P) ps_spec_l03Sorted (.block 0 (.loop b_spec_l03Sorted_L0)) (h_spec_l03Sorted_L0 xs xs 0) .normal (h_spec_l03Sorted_L0 xs (sortM KS xs) xs.length) := by
    rw [← srt_all]
    refine for_up (e := .exit 0) xs.length (fun k => h_spec_l03Sorted_L0 xs (srt KS xs 0 k) (k : Nat)) ?_ (fun k hk => ?_) ?_
    · show _ = _
      rw [srt_small xs 0 0 (by omega) (by omega) (by omega)]; rfl
    · refine q_spec_l03Sorted_L0 _ _ _ ?_
      obtain ⟨r1, r2⟩ := sl k (by omega)
      obtain ⟨j', hj'⟩ := inner k k (srt KS xs 0 k) (srt KS xs 0 k) r1.len (ok_rel r1 hN) (by omega)
      have hin := Exec.forgetR [3, 11, 12] (block_of hj')
      have en : sink KS 0 k (srt KS xs 0 k) = srt KS xs 0 (k + 1) := by
        by_cases h0 : k = 0
        · subst h0
          rw [srt_small xs 0 0 (by omega) (by omega) (by omega), srt_small xs 0 1 (by omega) (by omega) (by omega)]; rfl
        · exact sink_next (by omega) (by omega)
      rw [en] at hin
      simp only [Int.toNat_natCast]
      rw [en]
      have e1 : IntKind.wrap .i64 (((k : Nat) : Int) + 1) = (k + 1 : Nat) := by rw [wrap64_id (by omega) (by omega)]; omega
      rw [e1]
      repeat' (first | with_reducible refine T.ok_ob ?_ (fun _ => ?_) | with_reducible refine T.ok_ite (fun _ => ?_) (fun _ => ?_) | with_reducible refine T.ok_leaf ?_)
      all_goals (try simp only [decide_eq_true_eq, decide_eq_false_iff_not, Bool.not_eq_true', Bool.not_eq_false', Bool.not_eq_eq_eq_not, Bool.not_true, Bool.not_false, Int.toNat_natCast, tab_len, List.length_append, List.length_singleton, List.length_cons, List.length_nil, List.length_drop, List.length_take, getD_drop', getD_nat, reduceCtorEq] at *)
      all_goals (try simp (disch := omega) only [wrap64_id] at *)
      all_goals first | omega | (exfalso; omega) | exact True.intro | skip
      all_goals first | exact hin | rfl
    · refine q_spec_l03Sorted_L0 _ _ _ ?_
      repeat' (first | with_reducible refine T.ok_ob ?_ (fun _ => ?_) | with_reducible refine T.ok_ite (fun _ => ?_) (fun _ => ?_) | with_reducible refine T.ok_leaf ?_)
      all_goals (try simp only [decide_eq_true_eq, decide_eq_false_iff_not, Bool.not_eq_true', Bool.not_eq_false', Bool.not_eq_eq_eq_not, Bool.not_true, Bool.not_false, Int.toNat_natCast, tab_len, List.length_append, List.length_singleton, List.length_cons, List.length_nil, List.length_drop, List.length_take, getD_drop', getD_nat, reduceCtorEq] at *)
      all_goals (try simp (disch := omega) only [wrap64_id] at *)
      all_goals first | omega | (exfalso; omega) | exact True.intro | skip
      all_goals rfl
  refine q_spec_l03Sorted h xs ?_
  repeat' (first | with_reducible refine T.ok_ob ?_ (fun _ => ?_) | with_reducible refine T.ok_ite (fun _ => ?_) (fun _ => ?_) | with_reducible refine T.ok_leaf ?_)
  all_goals first | exact main | omega | rfl

end Go.Proofs.LV
