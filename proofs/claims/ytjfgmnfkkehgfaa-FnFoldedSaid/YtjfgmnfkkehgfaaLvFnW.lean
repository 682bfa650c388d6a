/- Steps of waves. -/
import Derived.Test.YtjfgmnfkkehgfaaLvFnC
import Derived.Test.YtjfgmnfkkehgfaaLvHalf
import Derived.Test.YtjfgmnfkkehgfaaLvBad
namespace Go.Proofs.LV
open Go
set_option linter.unusedVariables false
set_option linter.unusedSimpArgs false

def swV (a : List Nat) (i : Nat) : Nat := fmul .f32 1056964608 (fadd .f32 (a.getD (2 * i) 0) (a.getD (2 * i + 1) 0))
def swD (a : List Nat) (i : Nat) : Nat := fmul .f32 1056964608 (fsub .f32 (a.getD (2 * i) 0) (a.getD (2 * i + 1) 0))
def swM (a : List Nat) : List Nat := tab (a.length / 2) (swV a)
def swS (a : List Nat) : List Nat := tab (a.length / 2) (swD a)
def swOk (a : List Nat) : Bool := (seriesM a && decide (a.length % 2 = 0)) && (finAllM (swM a) && finAllM (swS a))

-- FN impl_StepWaves
/-- impl.StepWaves: slots 63, results [.t 2, .t 3, .t 4]; calls [9:g_impl_IsSeries, 54:g_impl_areFinite, 58:g_impl_areFinite]; names [(a, 0), (a, 1), (means, 5), (steps, 6), (i, 7)] -/
def ps_impl_StepWaves : List Nat := [0, 2, 3, 4, 5, 6, 7, 16, 22, 60]
def lv_impl_StepWaves_L0 : List Nat := [0, 5, 6, 7]
def b_impl_StepWaves_L0 (g_impl_IsSeries g_impl_areFinite : FuncId) : VCode :=
  (.seq
   (.seq
    (.region false [
     ⟨some 19, .mv, [.t 7], none⟩,
     ⟨some 20, .mv, [.t 0], none⟩,
     ⟨some 21, .len, [.t 20], none⟩,
     ⟨some 22, (.bin .lss), [.t 19, .t 21], none⟩])
    (.cond (.t 22)
     .skip
     (.exit 0)))
   (.seq
    (.block 1
     (.region true [
      ⟨some 25, .mv, [.t 5], none⟩,
      ⟨some 26, .mv, [.t 0], none⟩,
      ⟨some 27, .mv, [.t 7], none⟩,
      ⟨some 28, .iaddr, [.t 26, .t 27], none⟩,
      ⟨some 29, .load, [.t 28], none⟩,
      ⟨some 30, .mv, [.t 0], none⟩,
      ⟨some 31, .mv, [.t 7], none⟩,
      ⟨some 32, (.bin .add), [.t 31, .k (.i .i64 1)], none⟩,
      ⟨some 33, .iaddr, [.t 30, .t 32], none⟩,
      ⟨some 34, .load, [.t 33], none⟩,
      ⟨some 35, (.bin .add), [.t 29, .t 34], none⟩,
      ⟨some 36, (.bin .quo), [.t 35, .k (.f .f32 1073741824)], none⟩,
      ⟨some 37, (.lit true (.f .f32 [])), [.t 36], none⟩,
      ⟨some 38, .app, [.t 25, .t 37], none⟩,
      ⟨some 39, .mv, [.t 6], none⟩,
      ⟨some 40, .mv, [.t 0], none⟩,
      ⟨some 41, .mv, [.t 7], none⟩,
      ⟨some 42, .iaddr, [.t 40, .t 41], none⟩,
      ⟨some 43, .load, [.t 42], none⟩,
      ⟨some 44, .mv, [.t 0], none⟩,
      ⟨some 45, .mv, [.t 7], none⟩,
      ⟨some 46, (.bin .add), [.t 45, .k (.i .i64 1)], none⟩,
      ⟨some 47, .iaddr, [.t 44, .t 46], none⟩,
      ⟨some 48, .load, [.t 47], none⟩,
      ⟨some 49, (.bin .sub), [.t 43, .t 48], none⟩,
      ⟨some 50, (.bin .quo), [.t 49, .k (.f .f32 1073741824)], none⟩,
      ⟨some 51, (.lit true (.f .f32 [])), [.t 50], none⟩,
      ⟨some 52, .app, [.t 39, .t 51], none⟩,
      ⟨some 5, .mv, [.t 38], none⟩,
      ⟨some 6, .mv, [.t 52], none⟩]))
    (.region false [
     ⟨some 23, .mv, [.t 7], none⟩,
     ⟨some 24, (.bin .add), [.t 23, .k (.i .i64 2)], none⟩,
     ⟨some 7, .mv, [.t 24], none⟩])))

def b_impl_StepWaves (g_impl_IsSeries g_impl_areFinite : FuncId) : VCode :=
  (.seq
   (.region false [
    ⟨some 2, (.nilsl (.f .f32 [])), [], none⟩,
    ⟨some 3, (.nilsl (.f .f32 [])), [], none⟩,
    ⟨some 4, .mv, [.k (.b false)], none⟩])
   (.seq
    (.seq
     (.region false [
      ⟨some 8, .mv, [.t 0], none⟩,
      ⟨some 9, (.call g_impl_IsSeries), [.t 8], none⟩,
      ⟨some 10, .not, [.t 9], none⟩,
      ⟨some 11, .mv, [.t 10], none⟩,
      ⟨some 12, .mv, [.t 0], some (11, false)⟩,
      ⟨some 13, .len, [.t 12], some (11, false)⟩,
      ⟨some 14, (.bin .rem), [.t 13, .k (.i .i64 2)], some (11, false)⟩,
      ⟨some 15, (.bin .neq), [.t 14, .k (.i .i64 0)], some (11, false)⟩,
      ⟨some 16, .pick, [.t 11, .k (.b true), .t 15], none⟩])
     (.cond (.t 16)
      (.seq
       (.region false [
        ⟨some 2, (.nilsl (.f .f32 [])), [], none⟩,
        ⟨some 3, (.nilsl (.f .f32 [])), [], none⟩,
        ⟨some 4, .mv, [.k (.b false)], none⟩])
       .ret)
      .skip))
    (.seq
     (.region false [
      ⟨some 17, (.lit true (.f .f32 [])), [], none⟩,
      ⟨some 18, (.lit true (.f .f32 [])), [], none⟩,
      ⟨some 5, .mv, [.t 17], none⟩,
      ⟨some 6, .mv, [.t 18], none⟩])
     (.seq
      (.seq
       (.region false [
        ⟨some 7, .mv, [.k (.i .i64 0)], none⟩])
       (.block 0 (.loop (b_impl_StepWaves_L0 g_impl_IsSeries g_impl_areFinite))))
      (.seq
       (.seq
        (.region false [
         ⟨some 53, .mv, [.t 5], none⟩,
         ⟨some 54, (.call g_impl_areFinite), [.t 53], none⟩,
         ⟨some 55, .not, [.t 54], none⟩,
         ⟨some 56, .mv, [.t 55], none⟩,
         ⟨some 57, .mv, [.t 6], some (56, false)⟩,
         ⟨some 58, (.call g_impl_areFinite), [.t 57], some (56, false)⟩,
         ⟨some 59, .not, [.t 58], some (56, false)⟩,
         ⟨some 60, .pick, [.t 56, .k (.b true), .t 59], none⟩])
        (.cond (.t 60)
         (.seq
          (.region false [
           ⟨some 2, (.nilsl (.f .f32 [])), [], none⟩,
           ⟨some 3, (.nilsl (.f .f32 [])), [], none⟩,
           ⟨some 4, .mv, [.k (.b false)], none⟩])
          .ret)
         .skip))
       (.seq
        (.region false [
         ⟨some 61, .mv, [.t 5], none⟩,
         ⟨some 62, .mv, [.t 6], none⟩,
         ⟨some 2, .mv, [.t 61], none⟩,
         ⟨some 3, .mv, [.t 62], none⟩,
         ⟨some 4, .mv, [.k (.b true)], none⟩])
        .ret))))))

abbrev Is_impl_StepWaves (P : Program) (g_f : FuncId) (g_impl_IsSeries g_impl_areFinite : FuncId) : Prop := FnIs P g_f 63 [.t 2, .t 3, .t 4] (b_impl_StepWaves g_impl_IsSeries g_impl_areFinite)

abbrev C_impl_StepWaves (P : Program) (g_f : FuncId) : Prop := ∀ (a : List Nat) (hx : a.length ≤ maxLen), VCall P g_f [PS [0] .f32 a] (.tup [OS 0 .f32 (if swOk a = true then swM a else []), OS 1 .f32 (if swOk a = true then swS a else []), .b (swOk a)])
def oc1_impl_StepWaves (as : List AV) : T AV := match as with | [.sl _ _ (.f .f32 a)] => .leaf (.tup [OS 0 .f32 (if swOk a = true then swM a else []), OS 1 .f32 (if swOk a = true then swS a else []), .b (swOk a)]) | _ => .fail
def oc_impl_StepWaves (a : List Nat) (d : Nat) (as : List AV) : T AV := match d with | 9 => oc1_impl_IsSeries as | 54 => oc1_impl_areFinite as | 58 => oc1_impl_areFinite as | _ => .fail
def h_impl_StepWaves_L0 (a : List Nat) (means : List Nat) (steps : List Nat) (i : Int) : Env := [AV.sl (Tag.par [0]) 0 (Cont.f FloatKind.f32 a)] ++ anys 4 ++ [.sl (Tag.own 136) 0 (.f FloatKind.f32 means), .sl (Tag.own 144) 0 (.f FloatKind.f32 steps), .i IntKind.i64 i] ++ anys 55

theorem q_impl_StepWaves_L0 {VC : FuncId → List AV → AV → Prop} {g_impl_IsSeries g_impl_areFinite : FuncId} (a : List Nat) (means : List Nat) (steps : List Nat) (i : Int) {e_ : Ex} {σ_ : Env} (ht : T.ok (fun x_ => x_ = (e_, σ_)) (
      T.ite (decide (i < (↑(List.length a) : Int)))
        (T.ob (0 ≤ i ∧ i < (↑(List.length a) : Int))
          (T.ob (0 ≤ IntKind.wrap IntKind.i64 (i + 1) ∧ IntKind.wrap IntKind.i64 (i + 1) < (↑(List.length a) : Int))
            (T.ob True
              (T.ob (List.length means + List.length [fdiv FloatKind.f32 (fadd FloatKind.f32 (List.getD a (Int.toNat i) 0) (List.getD a (Int.toNat (IntKind.wrap IntKind.i64 (i + 1))) 0)) 1073741824] ≤ 4294967296)
                (T.ob (0 ≤ i ∧ i < (↑(List.length a) : Int))
                  (T.ob (0 ≤ IntKind.wrap IntKind.i64 (i + 1) ∧ IntKind.wrap IntKind.i64 (i + 1) < (↑(List.length a) : Int))
                    (T.ob True
                      (T.ob (List.length steps + List.length [fdiv FloatKind.f32 (fsub FloatKind.f32 (List.getD a (Int.toNat i) 0) (List.getD a (Int.toNat (IntKind.wrap IntKind.i64 (i + 1))) 0)) 1073741824] ≤ 4294967296)
                        (T.leaf
                          (Ex.normal,
                            h_impl_StepWaves_L0 a (means ++ [fdiv FloatKind.f32 (fadd FloatKind.f32 (List.getD a (Int.toNat i) 0) (List.getD a (Int.toNat (IntKind.wrap IntKind.i64 (i + 1))) 0)) 1073741824])
                              (steps ++ [fdiv FloatKind.f32 (fsub FloatKind.f32 (List.getD a (Int.toNat i) 0) (List.getD a (Int.toNat (IntKind.wrap IntKind.i64 (i + 1))) 0)) 1073741824])
                              (IntKind.wrap IntKind.i64 (i + 2))))))))))))
        (T.leaf (Ex.exit 0, h_impl_StepWaves_L0 a means steps i)))) :
    Exec VC ps_impl_StepWaves (b_impl_StepWaves_L0 g_impl_IsSeries g_impl_areFinite) (h_impl_StepWaves_L0 a means steps i) e_ σ_ := evL_of (lv := lv_impl_StepWaves_L0) (rs := [2, 3, 4]) (O := ⟨oc_impl_StepWaves a, fun _ _ => none⟩) (by kernel_rfl) ht

theorem q_impl_StepWaves {P : Program} {g_f : FuncId} {g_impl_IsSeries g_impl_areFinite : FuncId} (h_ : Is_impl_StepWaves P g_f g_impl_IsSeries g_impl_areFinite) (a : List Nat) (ht : T.ok (fun x_ => x_ = .tup [OS 0 .f32 (if swOk a = true then swM a else []), OS 1 .f32 (if swOk a = true then swS a else []), .b (swOk a)]) (
      T.ob ((VCall P) g_impl_IsSeries [AV.sl (Tag.par [0]) 0 (Cont.f FloatKind.f32 a)] (AV.b (seriesM a)))
        (T.ite (!seriesM a) (T.leaf (AV.tup [AV.sl (Tag.own 0) 0 (Cont.f FloatKind.f32 []), AV.sl (Tag.own 1) 0 (Cont.f FloatKind.f32 []), AV.b false]))
          (T.ob ((2 : Int) ≠ 0)
            (T.ite (Int.tmod (↑(List.length a) : Int) 2 != 0) (T.leaf (AV.tup [AV.sl (Tag.own 0) 0 (Cont.f FloatKind.f32 []), AV.sl (Tag.own 1) 0 (Cont.f FloatKind.f32 []), AV.b false]))
              (T.ob
                (Exec (VCall P) ps_impl_StepWaves (VCode.block 0 (VCode.loop (b_impl_StepWaves_L0 g_impl_IsSeries g_impl_areFinite))) (h_impl_StepWaves_L0 a [] [] 0) Ex.normal
                  (h_impl_StepWaves_L0 a (swM a) (swS a) (↑(List.length a) : Int)))
                (T.ob ((VCall P) g_impl_areFinite [AV.sl (Tag.par [0]) 0 (Cont.f FloatKind.f32 (swM a))] (AV.b (finAllM (swM a))))
                  (T.ite (!finAllM (swM a)) (T.leaf (AV.tup [AV.sl (Tag.own 0) 0 (Cont.f FloatKind.f32 []), AV.sl (Tag.own 1) 0 (Cont.f FloatKind.f32 []), AV.b false]))
                    (T.ob ((VCall P) g_impl_areFinite [AV.sl (Tag.par [0]) 0 (Cont.f FloatKind.f32 (swS a))] (AV.b (finAllM (swS a))))
                      (T.ite (!finAllM (swS a)) (T.leaf (AV.tup [AV.sl (Tag.own 0) 0 (Cont.f FloatKind.f32 []), AV.sl (Tag.own 1) 0 (Cont.f FloatKind.f32 []), AV.b false]))
                        (T.leaf (AV.tup [AV.sl (Tag.own 0) 0 (Cont.f FloatKind.f32 (swM a)), AV.sl (Tag.own 1) 0 (Cont.f FloatKind.f32 (swS a)), AV.b true])))))))))))) :
    VCall P g_f [PS [0] .f32 a] (.tup [OS 0 .f32 (if swOk a = true then swM a else []), OS 1 .f32 (if swOk a = true then swS a else []), .b (swOk a)]) := h_.call_of ps_impl_StepWaves ⟨oc_impl_StepWaves a, fun id σ => match id with | 0 => some (lv_impl_StepWaves_L0, .leaf (.normal, h_impl_StepWaves_L0 a (swM a) (swS a) a.length)) | _ => none⟩ (by kernel_rfl) ht

-- END impl_StepWaves


theorem tmod2 (n : Nat) : (Int.tmod (n : Int) 2 != 0) = !decide (n % 2 = 0) := by
  rw [Int.tmod_eq_emod_of_nonneg (by omega)]
  by_cases h : n % 2 = 0
  · rw [decide_eq_true h, show ((n : Int) % 2) = 0 by omega]; rfl
  · rw [decide_eq_false h, show ((n : Int) % 2) = 1 by omega]; rfl
theorem sw_next (a : List Nat) (k : Nat) : tab (k + 1) (swV a) = tab k (swV a) ++ [fmul .f32 1056964608 (fadd .f32 (a.getD (2 * k) 0) (a.getD (2 * k + 1) 0))] := tab_succ _ _
theorem sd_next (a : List Nat) (k : Nat) : tab (k + 1) (swD a) = tab k (swD a) ++ [fmul .f32 1056964608 (fsub .f32 (a.getD (2 * k) 0) (a.getD (2 * k + 1) 0))] := tab_succ _ _
theorem k_impl_StepWaves {P : Program} {f g1 g2 : FuncId} (h : Is_impl_StepWaves P f g1 g2) (c1 : C_impl_IsSeries P g1) (c2 : C_impl_areFinite P g2) : C_impl_StepWaves P f := by
  intro a hx
  refine q_impl_StepWaves h a ?_
  rw [tmod2]
  have l1 : (swM a).length = a.length / 2 := tab_len _ _
  have l2 : (swS a).length = a.length / 2 := tab_len _ _
  cases hs : seriesM a
  · repeat' (first | with_reducible refine T.ok_ob ?_ (fun _ => ?_) | with_reducible refine T.ok_ite (fun _ => ?_) (fun _ => ?_) | with_reducible refine T.ok_leaf ?_)
    all_goals first | exact hs ▸ c1 _ hx | contradiction | rfl | (simp [swOk, hs]; done)
  have hl := series_len hs
  cases he : decide (a.length % 2 = 0)
  · repeat' (first | with_reducible refine T.ok_ob ?_ (fun _ => ?_) | with_reducible refine T.ok_ite (fun _ => ?_) (fun _ => ?_) | with_reducible refine T.ok_leaf ?_)
    all_goals first | exact hs ▸ c1 _ hx | contradiction | decide | (simp only [swOk, hs, he]; rfl)
  have he2 := of_decide_eq_true he
  have main : Exec (VCall P) ps_impl_StepWaves (.block 0 (.loop (b_impl_StepWaves_L0 g1 g2))) (h_impl_StepWaves_L0 a [] [] 0) .normal (h_impl_StepWaves_L0 a (swM a) (swS a) a.length) := by
    refine for_up (e := .exit 0) (a.length / 2) (fun k => h_impl_StepWaves_L0 a (tab k (swV a)) (tab k (swD a)) (2 * k : Nat)) (by rfl) (fun k hk => ?_) ?_
    · refine q_impl_StepWaves_L0 _ _ _ _ ?_
      have e1 : IntKind.wrap .i64 (((2 * k : Nat) : Int) + 1) = (2 * k + 1 : Nat) := by rw [wrap64_id (by omega) (by omega)]; omega
      have e2 : IntKind.wrap .i64 (((2 * k : Nat) : Int) + 2) = (2 * (k + 1) : Nat) := by rw [wrap64_id (by omega) (by omega)]; omega
      rw [e1, e2, half_eq, half_eq, sw_next, sd_next]
      have t1 := tab_len k (swV a)
      have t2 := tab_len k (swD a)
      repeat' (first | with_reducible refine T.ok_ob ?_ (fun _ => ?_) | with_reducible refine T.ok_ite (fun _ => ?_) (fun _ => ?_) | with_reducible refine T.ok_leaf ?_)
      all_goals (try simp only [decide_eq_true_eq, decide_eq_false_iff_not, Bool.not_eq_true', Bool.not_eq_false', Bool.not_eq_eq_eq_not, Bool.not_true, Bool.not_false, Int.toNat_natCast, tab_len, List.length_append, List.length_singleton, List.length_cons, List.length_nil, List.length_drop, List.length_take, getD_drop', getD_nat, reduceCtorEq] at *)
      all_goals (try simp (disch := omega) only [wrap64_id] at *)
      all_goals first | omega | (exfalso; omega) | exact True.intro | skip
      all_goals rfl
    · refine q_impl_StepWaves_L0 _ _ _ _ ?_
      rw [show 2 * (a.length / 2) = a.length by omega]
      repeat' (first | with_reducible refine T.ok_ob ?_ (fun _ => ?_) | with_reducible refine T.ok_ite (fun _ => ?_) (fun _ => ?_) | with_reducible refine T.ok_leaf ?_)
      all_goals (try simp only [decide_eq_true_eq, decide_eq_false_iff_not, Bool.not_eq_true', Bool.not_eq_false', Bool.not_eq_eq_eq_not, Bool.not_true, Bool.not_false, Int.toNat_natCast, tab_len, List.length_append, List.length_singleton, List.length_cons, List.length_nil, List.length_drop, List.length_take, getD_drop', getD_nat, reduceCtorEq] at *)
      all_goals (try simp (disch := omega) only [wrap64_id] at *)
      all_goals first | omega | (exfalso; omega) | exact True.intro | skip
      all_goals rfl
  repeat' (first | with_reducible refine T.ok_ob ?_ (fun _ => ?_) | with_reducible refine T.ok_ite (fun _ => ?_) (fun _ => ?_) | with_reducible refine T.ok_leaf ?_)
  all_goals first | exact hs ▸ c1 _ hx | exact main | contradiction | decide | exact c2 _ (by rw [l1, maxLen_eq]; omega) | exact c2 _ (by rw [l2, maxLen_eq]; omega) | skip
  all_goals simp_all [swOk]
end Go.Proofs.LV
