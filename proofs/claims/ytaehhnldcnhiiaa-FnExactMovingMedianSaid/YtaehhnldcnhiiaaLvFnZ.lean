/- Moving medians. -/
import Derived.Test.YtaehhnldcnhiiaaLvFnV
import Derived.Test.YtaehhnldcnhiiaaLvFnF
namespace Go.Proofs.LV
open Go
set_option linter.unusedVariables false
set_option linter.unusedSimpArgs false

-- FN impl_MovingMedian
/-- impl.MovingMedian: slots 20, results [.t 4, .t 5]; calls [7:g_impl_IsSeries, 11:g_impl_isSide, 16:g_impl_moving, 17:g_impl_ifAll]; names [(list, 0), (side, 1), (list, 2), (side, 3)] -/
def ps_impl_MovingMedian : List Nat := [0, 1, 4, 5, 13]
def b_impl_MovingMedian (g_impl_IsSeries g_impl_isSide g_impl_moving g_impl_median g_impl_ifAll : FuncId) : VCode :=
  (.seq
   (.region false [
    ⟨some 4, (.nilsl (.f .f32 [])), [], none⟩,
    ⟨some 5, .mv, [.k (.b false)], none⟩])
   (.seq
    (.seq
     (.region false [
      ⟨some 6, .mv, [.t 0], none⟩,
      ⟨some 7, (.call g_impl_IsSeries), [.t 6], none⟩,
      ⟨some 8, .not, [.t 7], none⟩,
      ⟨some 9, .mv, [.t 8], none⟩,
      ⟨some 10, .mv, [.t 1], some (9, false)⟩,
      ⟨some 11, (.call g_impl_isSide), [.t 10], some (9, false)⟩,
      ⟨some 12, .not, [.t 11], some (9, false)⟩,
      ⟨some 13, .pick, [.t 9, .k (.b true), .t 12], none⟩])
     (.cond (.t 13)
      (.seq
       (.region false [
        ⟨some 4, (.nilsl (.f .f32 [])), [], none⟩,
        ⟨some 5, .mv, [.k (.b false)], none⟩])
       .ret)
      .skip))
    (.seq
     (.region false [
      ⟨some 14, .mv, [.t 0], none⟩,
      ⟨some 15, .mv, [.t 1], none⟩,
      ⟨some 16, (.call g_impl_moving), [.t 14, .t 15, .k (.fn g_impl_median [])], none⟩,
      ⟨some 17, (.call g_impl_ifAll), [.t 16], none⟩,
      ⟨some 18, (.extract 0), [.t 17], none⟩,
      ⟨some 19, (.extract 1), [.t 17], none⟩,
      ⟨some 4, .mv, [.t 18], none⟩,
      ⟨some 5, .mv, [.t 19], none⟩])
     .ret)))

abbrev Is_impl_MovingMedian (P : Program) (g_f : FuncId) (g_impl_IsSeries g_impl_isSide g_impl_moving g_impl_median g_impl_ifAll : FuncId) : Prop := FnIs P g_f 20 [.t 4, .t 5] (b_impl_MovingMedian g_impl_IsSeries g_impl_isSide g_impl_moving g_impl_median g_impl_ifAll)

abbrev C_impl_MovingMedian (P : Program) (g_f : FuncId) : Prop := ∀ (xs : List Nat) (side : Int) (hx : xs.length ≤ maxLen), VCall P g_f [PS [0] .f32 xs, .i .i64 side] (.tup [OS 0 .f32 (if mmOk medM xs side = true then movM medM xs side.toNat else []), .b (mmOk medM xs side)])
def oc1_impl_MovingMedian (as : List AV) : T AV := match as with | [.sl _ _ (.f .f32 xs), .i .i64 side] => .leaf (.tup [OS 0 .f32 (if mmOk medM xs side = true then movM medM xs side.toNat else []), .b (mmOk medM xs side)]) | _ => .fail
def oc_impl_MovingMedian (xs : List Nat) (side : Int) (d : Nat) (as : List AV) : T AV := match d with | 7 => oc1_impl_IsSeries as | 11 => oc1_impl_isSide as | 16 => .leaf (OS 0 .f32 (movM medM xs side.toNat)) | 17 => oc1_impl_ifAll as | _ => .fail



theorem q_impl_MovingMedian {P : Program} {g_f : FuncId} {g_impl_IsSeries g_impl_isSide g_impl_moving g_impl_median g_impl_ifAll : FuncId} (h_ : Is_impl_MovingMedian P g_f g_impl_IsSeries g_impl_isSide g_impl_moving g_impl_median g_impl_ifAll) (xs : List Nat) (side : Int) (ht : T.ok (fun x_ => x_ = .tup [OS 0 .f32 (if mmOk medM xs side = true then movM medM xs side.toNat else []), .b (mmOk medM xs side)]) (
      T.ob ((VCall P) g_impl_IsSeries [AV.sl (Tag.par [0]) 0 (Cont.f FloatKind.f32 xs)] (AV.b (seriesM xs)))
        (T.ite (!seriesM xs) (T.leaf (AV.tup [AV.sl (Tag.own 0) 0 (Cont.f FloatKind.f32 []), AV.b false]))
          (T.ob ((VCall P) g_impl_isSide [AV.i IntKind.i64 side] (AV.b (inM side 0 96)))
            (T.ite (!inM side 0 96) (T.leaf (AV.tup [AV.sl (Tag.own 0) 0 (Cont.f FloatKind.f32 []), AV.b false]))
              (T.ob ((VCall P) g_impl_moving [AV.sl (Tag.par [0]) 0 (Cont.f FloatKind.f32 xs), AV.i IntKind.i64 side, AV.fn g_impl_median []] (AV.sl (Tag.own 0) 0 (Cont.f FloatKind.f32 (movM medM xs (Int.toNat side)))))
                (T.ob
                  ((VCall P) g_impl_ifAll [AV.sl (Tag.par [0]) 0 (Cont.f FloatKind.f32 (movM medM xs (Int.toNat side)))]
                    (AV.tup [AV.sl (Tag.par [0]) 0 (Cont.f FloatKind.f32 (ifAllM (movM medM xs (Int.toNat side)))), AV.b (finAllM (movM medM xs (Int.toNat side)))]))
                  (T.leaf (AV.tup [AV.sl (Tag.own 0) 0 (Cont.f FloatKind.f32 (ifAllM (movM medM xs (Int.toNat side)))), AV.b (finAllM (movM medM xs (Int.toNat side)))]))))))))) :
    VCall P g_f [PS [0] .f32 xs, .i .i64 side] (.tup [OS 0 .f32 (if mmOk medM xs side = true then movM medM xs side.toNat else []), .b (mmOk medM xs side)]) := h_.call_of ps_impl_MovingMedian ⟨oc_impl_MovingMedian xs side, fun _ _ => none⟩ (by kernel_rfl) ht

-- END impl_MovingMedian

-- FN spec_MovingMedian
/-- spec.MovingMedian: slots 35, results [.t 4, .t 5]; calls [9:g_spec_l02Series, 13:g_spec_l00In, 27:g_spec_l02Near, 28:g_spec_l02Median, 32:g_spec_l02List]; names [(list, 0), (side, 1), (list, 2), (side, 3), (out, 6), (i, 7)] -/
def ps_spec_MovingMedian : List Nat := [0, 1, 4, 5, 6, 7, 15, 20]
def lv_spec_MovingMedian_L0 : List Nat := [0, 1, 6, 7]
def b_spec_MovingMedian_L0 (g_spec_l02Series g_spec_l00In g_spec_l02Near g_spec_l02Median g_spec_l02List : FuncId) : VCode :=
  (.seq
   (.seq
    (.region false [
     ⟨some 17, .mv, [.t 7], none⟩,
     ⟨some 18, .mv, [.t 0], none⟩,
     ⟨some 19, .len, [.t 18], none⟩,
     ⟨some 20, (.bin .lss), [.t 17, .t 19], none⟩])
    (.cond (.t 20)
     .skip
     (.exit 0)))
   (.seq
    (.block 1
     (.region false [
      ⟨some 23, .mv, [.t 6], none⟩,
      ⟨some 24, .mv, [.t 0], none⟩,
      ⟨some 25, .mv, [.t 7], none⟩,
      ⟨some 26, .mv, [.t 1], none⟩,
      ⟨some 27, (.call g_spec_l02Near), [.t 24, .t 25, .t 26], none⟩,
      ⟨some 28, (.call g_spec_l02Median), [.t 27], none⟩,
      ⟨some 29, (.lit true (.f .f32 [])), [.t 28], none⟩,
      ⟨some 30, .app, [.t 23, .t 29], none⟩,
      ⟨some 6, .mv, [.t 30], none⟩]))
    (.region false [
     ⟨some 21, .mv, [.t 7], none⟩,
     ⟨some 22, (.bin .add), [.t 21, .k (.i .i64 1)], none⟩,
     ⟨some 7, .mv, [.t 22], none⟩])))

def b_spec_MovingMedian (g_spec_l02Series g_spec_l00In g_spec_l02Near g_spec_l02Median g_spec_l02List : FuncId) : VCode :=
  (.seq
   (.region false [
    ⟨some 4, (.nilsl (.f .f32 [])), [], none⟩,
    ⟨some 5, .mv, [.k (.b false)], none⟩])
   (.seq
    (.seq
     (.region false [
      ⟨some 8, .mv, [.t 0], none⟩,
      ⟨some 9, (.call g_spec_l02Series), [.t 8], none⟩,
      ⟨some 10, .not, [.t 9], none⟩,
      ⟨some 11, .mv, [.t 10], none⟩,
      ⟨some 12, .mv, [.t 1], some (11, false)⟩,
      ⟨some 13, (.call g_spec_l00In), [.t 12, .k (.i .i64 0), .k (.i .i64 96)], some (11, false)⟩,
      ⟨some 14, .not, [.t 13], some (11, false)⟩,
      ⟨some 15, .pick, [.t 11, .k (.b true), .t 14], none⟩])
     (.cond (.t 15)
      (.seq
       (.region false [
        ⟨some 4, (.nilsl (.f .f32 [])), [], none⟩,
        ⟨some 5, .mv, [.k (.b false)], none⟩])
       .ret)
      .skip))
    (.seq
     (.region false [
      ⟨some 16, (.lit true (.f .f32 [])), [], none⟩,
      ⟨some 6, .mv, [.t 16], none⟩])
     (.seq
      (.seq
       (.region false [
        ⟨some 7, .mv, [.k (.i .i64 0)], none⟩])
       (.block 0 (.loop (b_spec_MovingMedian_L0 g_spec_l02Series g_spec_l00In g_spec_l02Near g_spec_l02Median g_spec_l02List))))
      (.seq
       (.region false [
        ⟨some 31, .mv, [.t 6], none⟩,
        ⟨some 32, (.call g_spec_l02List), [.t 31], none⟩,
        ⟨some 33, (.extract 0), [.t 32], none⟩,
        ⟨some 34, (.extract 1), [.t 32], none⟩,
        ⟨some 4, .mv, [.t 33], none⟩,
        ⟨some 5, .mv, [.t 34], none⟩])
       .ret)))))

abbrev Is_spec_MovingMedian (P : Program) (g_f : FuncId) (g_spec_l02Series g_spec_l00In g_spec_l02Near g_spec_l02Median g_spec_l02List : FuncId) : Prop := FnIs P g_f 35 [.t 4, .t 5] (b_spec_MovingMedian g_spec_l02Series g_spec_l00In g_spec_l02Near g_spec_l02Median g_spec_l02List)

abbrev C_spec_MovingMedian (P : Program) (g_f : FuncId) : Prop := ∀ (xs : List Nat) (side : Int) (hx : xs.length ≤ maxLen), VCall P g_f [PS [0] .f32 xs, .i .i64 side] (.tup [OS 0 .f32 (if mmOk medM xs side = true then movM medM xs side.toNat else []), .b (mmOk medM xs side)])
def oc1_spec_MovingMedian (as : List AV) : T AV := match as with | [.sl _ _ (.f .f32 xs), .i .i64 side] => .leaf (.tup [OS 0 .f32 (if mmOk medM xs side = true then movM medM xs side.toNat else []), .b (mmOk medM xs side)]) | _ => .fail
def oc_spec_MovingMedian (xs : List Nat) (side : Int) (d : Nat) (as : List AV) : T AV := match d with | 9 => oc1_spec_l02Series as | 13 => oc1_spec_l00In as | 27 => oc1_spec_l02Near as | 28 => oc1_spec_l02Median as | 32 => oc1_spec_l02List as | _ => .fail
def h_spec_MovingMedian_L0 (xs : List Nat) (side : Int) (out : List Nat) (i : Int) : Env := [AV.sl (Tag.par [0]) 0 (Cont.f FloatKind.f32 xs), AV.i IntKind.i64 side] ++ anys 4 ++ [.sl (Tag.own 128) 0 (.f FloatKind.f32 out), .i IntKind.i64 i] ++ anys 27

theorem q_spec_MovingMedian_L0 {VC : FuncId → List AV → AV → Prop} {g_spec_l02Series g_spec_l00In g_spec_l02Near g_spec_l02Median g_spec_l02List : FuncId} (xs : List Nat) (side : Int) (out : List Nat) (i : Int) {e_ : Ex} {σ_ : Env} (ht : T.ok (fun x_ => x_ = (e_, σ_)) (
      T.ite (decide (i < (↑(List.length xs) : Int)))
        (T.ob
          (VC g_spec_l02Near [AV.sl (Tag.par [0]) 0 (Cont.f FloatKind.f32 xs), AV.i IntKind.i64 i, AV.i IntKind.i64 side]
            (AV.sl (Tag.par [0]) (0 + (Int.toNat i - Int.toNat side)) (Cont.f FloatKind.f32 (winM xs (Int.toNat side) (Int.toNat i)))))
          (T.ob (VC g_spec_l02Median [AV.sl (Tag.par [0]) 0 (Cont.f FloatKind.f32 (winM xs (Int.toNat side) (Int.toNat i)))] (AV.f FloatKind.f32 (medM (winM xs (Int.toNat side) (Int.toNat i)))))
            (T.ob (List.length out + List.length [medM (winM xs (Int.toNat side) (Int.toNat i))] ≤ 4294967296)
              (T.leaf (Ex.normal, h_spec_MovingMedian_L0 xs side (out ++ [medM (winM xs (Int.toNat side) (Int.toNat i))]) (IntKind.wrap IntKind.i64 (i + 1)))))))
        (T.leaf (Ex.exit 0, h_spec_MovingMedian_L0 xs side out i)))) :
    Exec VC ps_spec_MovingMedian (b_spec_MovingMedian_L0 g_spec_l02Series g_spec_l00In g_spec_l02Near g_spec_l02Median g_spec_l02List) (h_spec_MovingMedian_L0 xs side out i) e_ σ_ := evL_of (lv := lv_spec_MovingMedian_L0) (rs := [4, 5]) (O := ⟨oc_spec_MovingMedian xs side, fun _ _ => none⟩) (by kernel_rfl) ht

theorem q_spec_MovingMedian {P : Program} {g_f : FuncId} {g_spec_l02Series g_spec_l00In g_spec_l02Near g_spec_l02Median g_spec_l02List : FuncId} (h_ : Is_spec_MovingMedian P g_f g_spec_l02Series g_spec_l00In g_spec_l02Near g_spec_l02Median g_spec_l02List) (xs : List Nat) (side : Int) (ht : T.ok (fun x_ => x_ = .tup [OS 0 .f32 (if mmOk medM xs side = true then movM medM xs side.toNat else []), .b (mmOk medM xs side)]) (
      T.ob ((VCall P) g_spec_l02Series [AV.sl (Tag.par [0]) 0 (Cont.f FloatKind.f32 xs)] (AV.b (seriesM xs)))
        (T.ite (!seriesM xs) (T.leaf (AV.tup [AV.sl (Tag.own 0) 0 (Cont.f FloatKind.f32 []), AV.b false]))
          (T.ob ((VCall P) g_spec_l00In [AV.i IntKind.i64 side, AV.i IntKind.i64 0, AV.i IntKind.i64 96] (AV.b (inM side 0 96)))
            (T.ite (!inM side 0 96) (T.leaf (AV.tup [AV.sl (Tag.own 0) 0 (Cont.f FloatKind.f32 []), AV.b false]))
              (T.ob
                (Exec (VCall P) ps_spec_MovingMedian (VCode.block 0 (VCode.loop (b_spec_MovingMedian_L0 g_spec_l02Series g_spec_l00In g_spec_l02Near g_spec_l02Median g_spec_l02List))) (h_spec_MovingMedian_L0 xs side [] 0) Ex.normal
                  (h_spec_MovingMedian_L0 xs side (movM medM xs (Int.toNat side)) (↑(List.length xs) : Int)))
                (T.ob
                  ((VCall P) g_spec_l02List [AV.sl (Tag.par [0]) 0 (Cont.f FloatKind.f32 (movM medM xs (Int.toNat side)))]
                    (AV.tup [AV.sl (Tag.par [0]) 0 (Cont.f FloatKind.f32 (ifAllM (movM medM xs (Int.toNat side)))), AV.b (finAllM (movM medM xs (Int.toNat side)))]))
                  (T.leaf (AV.tup [AV.sl (Tag.own 0) 0 (Cont.f FloatKind.f32 (ifAllM (movM medM xs (Int.toNat side)))), AV.b (finAllM (movM medM xs (Int.toNat side)))]))))))))) :
    VCall P g_f [PS [0] .f32 xs, .i .i64 side] (.tup [OS 0 .f32 (if mmOk medM xs side = true then movM medM xs side.toNat else []), .b (mmOk medM xs side)]) := h_.call_of ps_spec_MovingMedian ⟨oc_spec_MovingMedian xs side, fun id σ => match id with | 0 => some (lv_spec_MovingMedian_L0, .leaf (.normal, h_spec_MovingMedian_L0 xs side (movM medM xs side.toNat) xs.length)) | _ => none⟩ (by kernel_rfl) ht

-- END spec_MovingMedian

theorem win_med (xs : List Nat) (s i : Nat) (hs : seriesM xs = true) (hi : i < xs.length) : 1 ≤ (winM xs s i).length ∧ okM (winM xs s i) ∧ (winM xs s i).length ≤ 5000 := by
  have h1 := win_len xs s i hi
  have h2 := series_len hs
  exact ⟨h1.1, fun j => win_nan (fun i => series_nan hs i) s i j, by omega⟩
theorem k_impl_MovingMedian {P : Program} {f g1 g2 g3 g4 g5 : FuncId} (h : Is_impl_MovingMedian P f g1 g2 g3 g4 g5) (c1 : C_impl_IsSeries P g1) (c2 : C_impl_isSide P g2) (c3 : C_impl_moving P g3) (c4 : C_impl_median P g4) (c5 : C_impl_ifAll P g5) : C_impl_MovingMedian P f := by
  intro xs side hx
  refine q_impl_MovingMedian h xs side ?_
  have hl := fun h => series_len (xs := xs) h
  have hi : inM side 0 96 = true → 0 ≤ side ∧ side ≤ 96 := by intro h; simpa [inM] using h
  have ml := mov_len medM xs side.toNat
  repeat' (first | with_reducible refine T.ok_ob ?_ (fun _ => ?_) | with_reducible refine T.ok_ite (fun _ => ?_) (fun _ => ?_) | with_reducible refine T.ok_leaf ?_)
  all_goals first | with_reducible rfl | with_reducible exact c1 _ hx | with_reducible exact c2 _ | exact c3 xs side _ medM (fun ys h1 h2 h3 => c4 ys h1 h3 (by omega)) (fun i => series_nan (by simp_all) i) (hi (by simp_all)) (hl (by simp_all)).2 | exact c5 _ (by rw [ml]; exact hx) | (simp_all [mmOk, ifAllM]; done)
theorem k_spec_MovingMedian {P : Program} {f g1 g2 g3 g4 g5 : FuncId} (h : Is_spec_MovingMedian P f g1 g2 g3 g4 g5) (c1 : C_spec_l02Series P g1) (c2 : C_spec_l00In P g2) (c3 : C_spec_l02Near P g3) (c4 : C_spec_l02Median P g4) (c5 : C_spec_l02List P g5) : C_spec_MovingMedian P f := by
  intro xs side hx
  refine q_spec_MovingMedian h xs side ?_
  have ml := mov_len medM xs side.toNat
  cases hs : seriesM xs
  · repeat' (first | with_reducible refine T.ok_ob ?_ (fun _ => ?_) | with_reducible refine T.ok_ite (fun _ => ?_) (fun _ => ?_) | with_reducible refine T.ok_leaf ?_)
    all_goals first | with_reducible rfl | exact hs ▸ c1 _ hx | contradiction | (simp [mmOk, hs]; done)
  have hl := series_len hs
  cases hi : inM side 0 96
  · repeat' (first | with_reducible refine T.ok_ob ?_ (fun _ => ?_) | with_reducible refine T.ok_ite (fun _ => ?_) (fun _ => ?_) | with_reducible refine T.ok_leaf ?_)
    all_goals first | with_reducible rfl | exact hs ▸ c1 _ hx | exact hi ▸ c2 _ _ _ | contradiction | (simp [mmOk, hi]; done)
  have hi2 : 0 ≤ side ∧ side ≤ 96 := by simpa [inM] using hi
  obtain ⟨s, rfl⟩ : ∃ s : Nat, side = s := ⟨side.toNat, by omega⟩
  simp only [Int.toNat_natCast] at *
  have main : Exec (VCall P) ps_spec_MovingMedian (.block 0 (.loop (b_spec_MovingMedian_L0 g1 g2 g3 g4 g5))) (h_spec_MovingMedian_L0 xs s [] 0) .normal (h_spec_MovingMedian_L0 xs s (movM medM xs s) xs.length) := by
    refine for_up (e := .exit 0) xs.length (fun i => h_spec_MovingMedian_L0 xs s (tab i fun i => medM (winM xs s i)) i) rfl (fun i hi => ?_) ?_
    · refine q_spec_MovingMedian_L0 _ _ _ _ ?_
      simp only [Int.toNat_natCast]
      have hw := win_med xs s i hs hi
      have a1 := c3 xs i s (by omega) (by omega) hl.2
      have a2 := c4 (winM xs s i) hw.1 hw.2.1 hw.2.2
      repeat' (first | with_reducible refine T.ok_ob ?_ (fun _ => ?_) | with_reducible refine T.ok_ite (fun _ => ?_) (fun _ => ?_) | with_reducible refine T.ok_leaf ?_)
      all_goals (try simp only [decide_eq_true_eq, decide_eq_false_iff_not, Bool.not_eq_true', Bool.not_eq_false', Bool.not_eq_eq_eq_not, Bool.not_true, Bool.not_false, Int.toNat_natCast, tab_len, List.length_append, List.length_singleton, List.length_cons, List.length_nil, List.length_drop, List.length_take, getD_drop', getD_nat, reduceCtorEq] at *)
      all_goals (try simp (disch := omega) only [wrap64_id] at *)
      all_goals first | omega | (exfalso; omega) | trivial | contradiction | (exfalso; simp_all; done) | skip
      all_goals first | exact a1 | exact a2 | (rw [tab_succ]; rfl)
    · refine q_spec_MovingMedian_L0 _ _ _ _ ?_
      simp only [Int.toNat_natCast]
      repeat' (first | with_reducible refine T.ok_ob ?_ (fun _ => ?_) | with_reducible refine T.ok_ite (fun _ => ?_) (fun _ => ?_) | with_reducible refine T.ok_leaf ?_)
      all_goals (try simp only [decide_eq_true_eq, decide_eq_false_iff_not, Bool.not_eq_true', Bool.not_eq_false', Bool.not_eq_eq_eq_not, Bool.not_true, Bool.not_false, Int.toNat_natCast, tab_len, List.length_append, List.length_singleton, List.length_cons, List.length_nil, List.length_drop, List.length_take, getD_drop', getD_nat, reduceCtorEq] at *)
      all_goals (try simp (disch := omega) only [wrap64_id] at *)
      all_goals first | omega | (exfalso; omega) | trivial | contradiction | (exfalso; simp_all; done) | skip
      all_goals rfl
  repeat' (first | with_reducible refine T.ok_ob ?_ (fun _ => ?_) | with_reducible refine T.ok_ite (fun _ => ?_) (fun _ => ?_) | with_reducible refine T.ok_leaf ?_)
  all_goals first | with_reducible rfl | exact hs ▸ c1 _ hx | exact hi ▸ c2 _ _ _ | exact main | exact c5 _ (by rw [ml]; exact hx) | contradiction | (simp [mmOk, ifAllM, hs, hi]; done)

end Go.Proofs.LV
