/- Sorting by sinking, as the reference does it. -/
import Derived.Test.YtaehhnldcnhiiaaLvFnS
import Derived.Test.YtaehhnldcnhiiaaLvHalf
namespace Go.Proofs.LV
open Go
set_option linter.unusedVariables false
set_option linter.unusedSimpArgs false


-- FN spec_l02Sorted
/-- spec.l02Sorted: slots 51, results [.t 2]; calls []; names [(list, 0), (list, 1), (out, 3), (i, 4), (k, 5), (x, 6)] -/
def ps_spec_l02Sorted : List Nat := [0, 2, 3, 4, 5, 6, 13, 30]
def lv_spec_l02Sorted_L0 : List Nat := [3, 4]
def lv_spec_l02Sorted_L2 : List Nat := [3, 4, 5]
def b_spec_l02Sorted_L2 : VCode :=
  (.seq
   (.seq
    (.region true [
     ⟨some 17, .mv, [.t 5], none⟩,
     ⟨some 18, (.bin .gtr), [.t 17, .k (.i .i64 0)], none⟩,
     ⟨some 19, .mv, [.t 18], none⟩,
     ⟨some 20, .mv, [.t 3], some (19, true)⟩,
     ⟨some 21, .mv, [.t 5], some (19, true)⟩,
     ⟨some 22, .iaddr, [.t 20, .t 21], some (19, true)⟩,
     ⟨some 23, .load, [.t 22], some (19, true)⟩,
     ⟨some 24, .mv, [.t 3], some (19, true)⟩,
     ⟨some 25, .mv, [.t 5], some (19, true)⟩,
     ⟨some 26, (.bin .sub), [.t 25, .k (.i .i64 1)], some (19, true)⟩,
     ⟨some 27, .iaddr, [.t 24, .t 26], some (19, true)⟩,
     ⟨some 28, .load, [.t 27], some (19, true)⟩,
     ⟨some 29, (.bin .lss), [.t 23, .t 28], some (19, true)⟩,
     ⟨some 30, .pick, [.t 19, .t 29, .k (.b false)], none⟩])
    (.cond (.t 30)
     .skip
     (.exit 2)))
   (.seq
    (.block 3
     (.seq
      (.region false [
       ⟨some 33, .mv, [.t 3], none⟩,
       ⟨some 34, .mv, [.t 5], none⟩,
       ⟨some 35, .iaddr, [.t 33, .t 34], none⟩,
       ⟨some 36, .load, [.t 35], none⟩,
       ⟨some 6, .mv, [.t 36], none⟩])
      (.seq
       (.region false [
        ⟨some 37, .mv, [.t 3], none⟩,
        ⟨some 38, .mv, [.t 5], none⟩,
        ⟨some 39, .mv, [.t 3], none⟩,
        ⟨some 40, .mv, [.t 5], none⟩,
        ⟨some 41, (.bin .sub), [.t 40, .k (.i .i64 1)], none⟩,
        ⟨some 42, .iaddr, [.t 39, .t 41], none⟩,
        ⟨some 43, .load, [.t 42], none⟩,
        ⟨some 44, .iaddr, [.t 37, .t 38], none⟩,
        ⟨none, .store, [.t 44, .t 43], none⟩])
       (.region false [
        ⟨some 45, .mv, [.t 3], none⟩,
        ⟨some 46, .mv, [.t 5], none⟩,
        ⟨some 47, (.bin .sub), [.t 46, .k (.i .i64 1)], none⟩,
        ⟨some 48, .mv, [.t 6], none⟩,
        ⟨some 49, .iaddr, [.t 45, .t 47], none⟩,
        ⟨none, .store, [.t 49, .t 48], none⟩]))))
    (.region false [
     ⟨some 31, .mv, [.t 5], none⟩,
     ⟨some 32, (.bin .sub), [.t 31, .k (.i .i64 1)], none⟩,
     ⟨some 5, .mv, [.t 32], none⟩])))

def b_spec_l02Sorted_L0 : VCode :=
  (.seq
   (.seq
    (.region false [
     ⟨some 10, .mv, [.t 4], none⟩,
     ⟨some 11, .mv, [.t 3], none⟩,
     ⟨some 12, .len, [.t 11], none⟩,
     ⟨some 13, (.bin .lss), [.t 10, .t 12], none⟩])
    (.cond (.t 13)
     .skip
     (.exit 0)))
   (.seq
    (.block 1
     (.seq
      (.region false [
       ⟨some 16, .mv, [.t 4], none⟩,
       ⟨some 5, .mv, [.t 16], none⟩])
      (.block 2 (.loop b_spec_l02Sorted_L2))))
    (.region false [
     ⟨some 14, .mv, [.t 4], none⟩,
     ⟨some 15, (.bin .add), [.t 14, .k (.i .i64 1)], none⟩,
     ⟨some 4, .mv, [.t 15], none⟩])))

def b_spec_l02Sorted : VCode :=
  (.seq
   (.region false [
    ⟨some 2, (.nilsl (.f .f32 [])), [], none⟩])
   (.seq
    (.region false [
     ⟨some 7, (.nilsl (.f .f32 [])), [], none⟩,
     ⟨some 8, .mv, [.t 0], none⟩,
     ⟨some 9, .arr, [.t 7, .t 8], none⟩,
     ⟨some 3, .mv, [.t 9], none⟩])
    (.seq
     (.seq
      (.region false [
       ⟨some 4, .mv, [.k (.i .i64 1)], none⟩])
      (.block 0 (.loop b_spec_l02Sorted_L0)))
     (.seq
      (.region false [
       ⟨some 50, .mv, [.t 3], none⟩,
       ⟨some 2, .mv, [.t 50], none⟩])
      .ret))))

abbrev Is_spec_l02Sorted (P : Program) (g_f : FuncId) : Prop := FnIs P g_f 51 [.t 2] (b_spec_l02Sorted)

abbrev C_spec_l02Sorted (P : Program) (g_f : FuncId) : Prop := ∀ (list : List Nat) (hN : okM list) (hx : list.length ≤ 5000), VCall P g_f [PS [0] .f32 list] (OS 0 .f32 (sortM KS list))
def oc1_spec_l02Sorted (as : List AV) : T AV := match as with | [.sl _ _ (.f .f32 list)] => .leaf (OS 0 .f32 (sortM KS list)) | _ => .fail
def h_spec_l02Sorted_L0 (list : List Nat) (out : List Nat) (i : Int) : Env := [.any, .any, .any, .sl (Tag.own 72) 0 (.f FloatKind.f32 out), .i IntKind.i64 i] ++ anys 46
def h_spec_l02Sorted_L2 (list : List Nat) (out : List Nat) (i : Int) (out2 : List Nat) (k : Int) : Env := [.any, .any, .any, .sl (Tag.own 72) 0 (.f FloatKind.f32 out2), AV.i IntKind.i64 i, .i IntKind.i64 k] ++ anys 45

theorem q_spec_l02Sorted_L0 {VC : FuncId → List AV → AV → Prop} (list : List Nat) (out : List Nat) (i : Int) {e_ : Ex} {σ_ : Env} (ht : T.ok (fun x_ => x_ = (e_, σ_)) (
      T.ite (decide (i < (↑(List.length out) : Int)))
        (T.ob (Exec VC ps_spec_l02Sorted (VCode.block 2 (VCode.loop b_spec_l02Sorted_L2)) (h_spec_l02Sorted_L2 list out i out i) Ex.normal (h_spec_l02Sorted_L0 list (sink KS 0 (Int.toNat i) out) i))
          (T.leaf (Ex.normal, h_spec_l02Sorted_L0 list (sink KS 0 (Int.toNat i) out) (IntKind.wrap IntKind.i64 (i + 1)))))
        (T.leaf (Ex.exit 0, h_spec_l02Sorted_L0 list out i)))) :
    Exec VC ps_spec_l02Sorted (b_spec_l02Sorted_L0) (h_spec_l02Sorted_L0 list out i) e_ σ_ := evL_of (lv := lv_spec_l02Sorted_L0) (rs := [2]) (O := ⟨fun _ _ => .fail, fun id σ => match id with | 2 => some (lv_spec_l02Sorted_L2, .leaf (.normal, Env.clear [3, 4] (h_spec_l02Sorted_L2 list out i (sink KS 0 i.toNat out) 0))) | _ => none⟩) (by kernel_rfl) ht

theorem q_spec_l02Sorted_L2 {VC : FuncId → List AV → AV → Prop} (list : List Nat) (out : List Nat) (i : Int) (out2 : List Nat) (k : Int) {e_ : Ex} {σ_ : Env} (ht : T.ok (fun x_ => x_ = (e_, σ_)) (
      T.ite (decide (k > 0))
        (T.ob (0 ≤ k ∧ k < (↑(List.length out2) : Int))
          (T.ob (0 ≤ IntKind.wrap IntKind.i64 (k - 1) ∧ IntKind.wrap IntKind.i64 (k - 1) < (↑(List.length out2) : Int))
            (T.ite (flt FloatKind.f32 (List.getD out2 (Int.toNat k) 0) (List.getD out2 (Int.toNat (IntKind.wrap IntKind.i64 (k - 1))) 0))
              (T.ob (0 ≤ k ∧ k < (↑(List.length out2) : Int))
                (T.ob (0 ≤ IntKind.wrap IntKind.i64 (k - 1) ∧ IntKind.wrap IntKind.i64 (k - 1) < (↑(List.length out2) : Int))
                  (T.ob (0 ≤ k ∧ k < (↑(List.length out2) : Int))
                    (T.ob (false = false)
                      (T.ob
                        (0 ≤ IntKind.wrap IntKind.i64 (k - 1) ∧ IntKind.wrap IntKind.i64 (k - 1) < (↑(List.length (List.set out2 (0 + Int.toNat k - 0) (List.getD out2 (Int.toNat (IntKind.wrap IntKind.i64 (k - 1))) 0))) : Int))
                        (T.ob (false = false)
                          (T.leaf
                            (Ex.normal,
                              h_spec_l02Sorted_L2 list out i
                                (List.set (List.set out2 (0 + Int.toNat k - 0) (List.getD out2 (Int.toNat (IntKind.wrap IntKind.i64 (k - 1))) 0)) (0 + Int.toNat (IntKind.wrap IntKind.i64 (k - 1)) - 0)
                                  (List.getD out2 (Int.toNat k) 0))
                                (IntKind.wrap IntKind.i64 (k - 1))))))))))
              (T.leaf (Ex.exit 2, h_spec_l02Sorted_L2 list out i out2 k)))))
        (T.leaf (Ex.exit 2, h_spec_l02Sorted_L2 list out i out2 k)))) :
    Exec VC ps_spec_l02Sorted (b_spec_l02Sorted_L2) (h_spec_l02Sorted_L2 list out i out2 k) e_ σ_ := evL_of (lv := lv_spec_l02Sorted_L2) (rs := [2]) (O := ⟨fun _ _ => .fail, fun _ _ => none⟩) (by kernel_rfl) ht

theorem q_spec_l02Sorted {P : Program} {g_f : FuncId} (h_ : Is_spec_l02Sorted P g_f) (list : List Nat) (ht : T.ok (fun x_ => x_ = OS 0 .f32 (sortM KS list)) (
      T.ob (List.length list ≤ 4294967296)
        (T.ob
          (Exec (VCall P) ps_spec_l02Sorted (VCode.block 0 (VCode.loop b_spec_l02Sorted_L0)) (h_spec_l02Sorted_L0 list list 1) Ex.normal
            (AV.any :: AV.any :: AV.any :: AV.sl (Tag.own 72) 0 (Cont.f FloatKind.f32 (sortM KS list)) :: anys 47))
          (T.leaf (AV.sl (Tag.own 0) 0 (Cont.f FloatKind.f32 (sortM KS list))))))) :
    VCall P g_f [PS [0] .f32 list] (OS 0 .f32 (sortM KS list)) := h_.call_of ps_spec_l02Sorted ⟨fun _ _ => .fail, fun id σ => match id with | 0 => some (lv_spec_l02Sorted_L0, .leaf (.normal, Env.clear [3] (h_spec_l02Sorted_L0 list (sortM KS list) 0))) | _ => none⟩ (by kernel_rfl) ht

-- END spec_l02Sorted


theorem k_spec_l02Sorted {P : Program} {f : FuncId} (h : Is_spec_l02Sorted P f) : C_spec_l02Sorted P f := by
  intro xs hN hx
  have inner : ∀ (i : Nat) (j : Nat) (D l : List Nat), l.length = xs.length → okM l → j < xs.length → ∃ j' : Int, Exec (VCall P) ps_spec_l02Sorted (.loop b_spec_l02Sorted_L2)
      (h_spec_l02Sorted_L2 xs D i l j) (.exit 2) (h_spec_l02Sorted_L2 xs D i (sink KS 0 j l) j') := by
    intro i j
    induction j with
    | zero =>
      intro D l hl ho hj
      refine ⟨((0 : Nat) : Int), Exec.loopX (q_spec_l02Sorted_L2 _ _ _ _ _ ?_) (by simp)⟩
      repeat' (first | with_reducible refine T.ok_ob ?_ (fun _ => ?_) | with_reducible refine T.ok_ite (fun _ => ?_) (fun _ => ?_) | with_reducible refine T.ok_leaf ?_)
      all_goals (try simp only [decide_eq_true_eq, decide_eq_false_iff_not, Bool.not_eq_true', Bool.not_eq_false', Bool.not_eq_eq_eq_not, Bool.not_true, Bool.not_false, Int.toNat_natCast, tab_len, List.length_append, List.length_singleton, List.length_cons, List.length_nil, List.length_drop, List.length_take, getD_drop', getD_nat, reduceCtorEq] at *)
      all_goals (try simp (disch := omega) only [wrap64_id] at *)
      all_goals first | omega | (exfalso; omega) | exact True.intro | skip
      all_goals rfl
    | succ j ih =>
      intro D l hl ho hj
      have ew : IntKind.wrap .i64 (((j + 1 : Nat) : Int) - 1) = (j : Nat) := by rw [wrap64_id (by omega) (by omega)]; omega
      have ef : flt .f32 (l.getD (j + 1) 0) (l.getD j 0) = decide (KS (l.getD (j + 1) 0) < KS (l.getD j 0)) := by rw [flt_eq, ho, ho]; rfl
      by_cases hc : KS (l.getD (j + 1) 0) < KS (l.getD j 0)
      · obtain ⟨j', hj'⟩ := ih D (swp l (j + 1) j) (by rw [swp_len]; exact hl) (ok_swp ho (by omega) (by omega)) (by omega)
        have e : sink KS 0 (j + 1) l = sink KS 0 j (swp l (j + 1) j) := by rw [sink, if_pos ⟨by omega, hc⟩]
        rw [e]
        refine ⟨j', Exec.loopN (q_spec_l02Sorted_L2 _ _ _ _ _ ?_) hj'⟩
        rw [ew]
        simp only [Int.toNat_natCast, Nat.zero_add, Nat.sub_zero]
        have es : (l.set (j + 1) (l.getD j 0)).set j (l.getD (j + 1) 0) = swp l (j + 1) j := by
          first | rfl | (unfold swp; rfl) | exact List.set_comm _ _ (by omega)
        rw [ef, decide_eq_true hc, es]
        repeat' (first | with_reducible refine T.ok_ob ?_ (fun _ => ?_) | with_reducible refine T.ok_ite (fun _ => ?_) (fun _ => ?_) | with_reducible refine T.ok_leaf ?_)
        all_goals (try simp only [decide_eq_true_eq, decide_eq_false_iff_not, Bool.not_eq_true', Bool.not_eq_false', Bool.not_eq_eq_eq_not, Bool.not_true, Bool.not_false, Int.toNat_natCast, tab_len, List.length_append, List.length_singleton, List.length_cons, List.length_nil, List.length_drop, List.length_take, getD_drop', getD_nat, reduceCtorEq] at *)
        all_goals (try simp (disch := omega) only [wrap64_id] at *)
        all_goals first | omega | (exfalso; omega) | exact True.intro | skip
        all_goals first | rfl | (simp; omega)
      · have e : sink KS 0 (j + 1) l = l := by rw [sink, if_neg (fun h => hc h.2)]
        rw [e]
        refine ⟨((j + 1 : Nat) : Int), Exec.loopX (q_spec_l02Sorted_L2 _ _ _ _ _ ?_) (by simp)⟩
        rw [ew]
        simp only [Int.toNat_natCast, Nat.zero_add, Nat.sub_zero]
        rw [ef, decide_eq_false hc]
        repeat' (first | with_reducible refine T.ok_ob ?_ (fun _ => ?_) | with_reducible refine T.ok_ite (fun _ => ?_) (fun _ => ?_) | with_reducible refine T.ok_leaf ?_)
        all_goals (try simp only [decide_eq_true_eq, decide_eq_false_iff_not, Bool.not_eq_true', Bool.not_eq_false', Bool.not_eq_eq_eq_not, Bool.not_true, Bool.not_false, Int.toNat_natCast, tab_len, List.length_append, List.length_singleton, List.length_cons, List.length_nil, List.length_drop, List.length_take, getD_drop', getD_nat, reduceCtorEq] at *)
        all_goals (try simp (disch := omega) only [wrap64_id] at *)
        all_goals first | omega | (exfalso; omega) | exact True.intro | skip
        all_goals rfl
  have sl := fun i (h2 : i ≤ xs.length) => srt_rel (K := KS) (l := xs) (a := 0) (b := i) (by omega) h2
  have main : ∃ i' : Int, Exec (VCall P) ps_spec_l02Sorted (.block 0 (.loop b_spec_l02Sorted_L0)) (h_spec_l02Sorted_L0 xs xs 1) .normal (h_spec_l02Sorted_L0 xs (sortM KS xs) i') := by
    rw [← srt_all]
    by_cases hb : 1 ≤ xs.length
    · refine ⟨(xs.length : Nat), for_up (e := .exit 0) (xs.length - 1) (fun k => h_spec_l02Sorted_L0 xs (srt KS xs 0 (1 + k)) (1 + k : Nat)) ?_ (fun k hk => ?_) ?_⟩
      · show _ = _
        rw [srt_small xs 0 (1 + 0) (by omega) (by omega) (by omega)]; rfl
      · refine q_spec_l02Sorted_L0 _ _ _ ?_
        obtain ⟨r1, r2⟩ := sl (1 + k) (by omega)
        have r1l := r1.len
        obtain ⟨j', hj'⟩ := inner (1 + k) (1 + k) (srt KS xs 0 (1 + k)) (srt KS xs 0 (1 + k)) r1.len (ok_rel r1 hN) (by omega)
        have hin := Exec.forgetR [3, 4] (block_of hj')
        have en : sink KS 0 (1 + k) (srt KS xs 0 (1 + k)) = srt KS xs 0 (1 + (k + 1)) := sink_next (by omega) (by omega)
        rw [en] at hin
        simp only [Int.toNat_natCast]
        rw [en]
        have e1 : IntKind.wrap .i64 (((1 + k : Nat) : Int) + 1) = (1 + (k + 1) : Nat) := by rw [wrap64_id (by omega) (by omega)]; omega
        rw [e1]
        repeat' (first | with_reducible refine T.ok_ob ?_ (fun _ => ?_) | with_reducible refine T.ok_ite (fun _ => ?_) (fun _ => ?_) | with_reducible refine T.ok_leaf ?_)
        all_goals (try simp only [decide_eq_true_eq, decide_eq_false_iff_not, Bool.not_eq_true', Bool.not_eq_false', Bool.not_eq_eq_eq_not, Bool.not_true, Bool.not_false, Int.toNat_natCast, tab_len, List.length_append, List.length_singleton, List.length_cons, List.length_nil, List.length_drop, List.length_take, getD_drop', getD_nat, reduceCtorEq] at *)
        all_goals (try simp (disch := omega) only [wrap64_id] at *)
        all_goals first | omega | (exfalso; omega) | exact True.intro | skip
        all_goals first | exact hin | rfl
      · refine q_spec_l02Sorted_L0 _ _ _ ?_
        rw [show 1 + (xs.length - 1) = xs.length by omega]
        have r1l := (sl xs.length (Nat.le_refl _)).1.len
        repeat' (first | with_reducible refine T.ok_ob ?_ (fun _ => ?_) | with_reducible refine T.ok_ite (fun _ => ?_) (fun _ => ?_) | with_reducible refine T.ok_leaf ?_)
        all_goals (try simp only [decide_eq_true_eq, decide_eq_false_iff_not, Bool.not_eq_true', Bool.not_eq_false', Bool.not_eq_eq_eq_not, Bool.not_true, Bool.not_false, Int.toNat_natCast, tab_len, List.length_append, List.length_singleton, List.length_cons, List.length_nil, List.length_drop, List.length_take, getD_drop', getD_nat, reduceCtorEq] at *)
        all_goals (try simp (disch := omega) only [wrap64_id] at *)
        all_goals first | omega | (exfalso; omega) | exact True.intro | skip
        all_goals rfl
    · have h0 : xs.length = 0 := by omega
      rw [srt_small xs 0 xs.length (by omega) (by omega) (by omega)]
      refine ⟨((1 : Nat) : Int), for_up (e := .exit 0) 0 (fun k => h_spec_l02Sorted_L0 xs xs (1 : Nat)) rfl (fun k hk => by omega) ?_⟩
      refine q_spec_l02Sorted_L0 _ _ _ ?_
      repeat' (first | with_reducible refine T.ok_ob ?_ (fun _ => ?_) | with_reducible refine T.ok_ite (fun _ => ?_) (fun _ => ?_) | with_reducible refine T.ok_leaf ?_)
      all_goals (try simp only [decide_eq_true_eq, decide_eq_false_iff_not, Bool.not_eq_true', Bool.not_eq_false', Bool.not_eq_eq_eq_not, Bool.not_true, Bool.not_false, Int.toNat_natCast, tab_len, List.length_append, List.length_singleton, List.length_cons, List.length_nil, List.length_drop, List.length_take, getD_drop', getD_nat, reduceCtorEq] at *)
      all_goals (try simp (disch := omega) only [wrap64_id] at *)
      all_goals first | omega | (exfalso; omega) | exact True.intro | skip
      all_goals rfl
  obtain ⟨i', main⟩ := main
  have main2 := Exec.forgetR [3] main
  refine q_spec_l02Sorted h xs ?_
  repeat' (first | with_reducible refine T.ok_ob ?_ (fun _ => ?_) | with_reducible refine T.ok_ite (fun _ => ?_) (fun _ => ?_) | with_reducible refine T.ok_leaf ?_)
  all_goals first | exact main2 | omega | rfl

end Go.Proofs.LV
