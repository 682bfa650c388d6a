/- Likenesses of a series with itself, guesses ahead, means of series. -/
import Derived.Test.YtdffgjembkanoaaLvFnGX
namespace Go.Proofs.LV
open Go
set_option linter.unusedVariables false
set_option linter.unusedSimpArgs false

abbrev LL := List (List Nat)
abbrev PF (p : List Nat) (xs : LL) : AV := .sl (.par p) 0 (.ff .f32 xs)
/-- the sum of products with those a lag later -/
def delM (a : List Nat) (lag : Nat) : Nat := accN (fun i s => fadd .f32 s (fmul .f32 (a.getD i 0) (a.getD (i + lag) 0))) (a.length - lag) 0
def offM (a : List Nat) : List Nat := lessOneM a (meanM a)
def likesM (a : List Nat) (most : Nat) : List Nat := tab (most + 1) fun lag => fdiv .f32 (delM (offM a) lag) (delM (offM a) 0)
def likesOk (a : List Nat) (most : Int) : Bool := seriesM a && (inM most 0 16 && (decide (most < a.length) && (fgt .f32 (delM (offM a) 0) 0 && finAllM (likesM a most.toNat))))
def likesOut (a : List Nat) (most : Int) : List Nat := if likesOk a most = true then likesM a most.toNat else []

-- FN impl_isMost
/-- impl.isMost: slots 15, results [.t 4]; calls [6:g_impl_IsSeries, 13:g_impl_within]; names [(a, 0), (most, 1), (a, 2), (most, 3)] -/
def ps_impl_isMost : List Nat := [0, 1, 4]
def b_impl_isMost (g_impl_IsSeries g_impl_within : FuncId) : VCode :=
  (.seq
   (.region false [
    ⟨some 4, .mv, [.k (.b false)], none⟩])
   (.seq
    (.region false [
     ⟨some 5, .mv, [.t 0], none⟩,
     ⟨some 6, (.call g_impl_IsSeries), [.t 5], none⟩,
     ⟨some 7, .mv, [.t 6], none⟩,
     ⟨some 8, .mv, [.t 1], some (7, true)⟩,
     ⟨some 9, .mv, [.t 0], some (7, true)⟩,
     ⟨some 10, .len, [.t 9], some (7, true)⟩,
     ⟨some 11, (.bin .sub), [.t 10, .k (.i .i64 1)], some (7, true)⟩,
     ⟨some 12, .min, [.k (.i .i64 16), .t 11], some (7, true)⟩,
     ⟨some 13, (.call g_impl_within), [.t 8, .k (.i .i64 0), .t 12], some (7, true)⟩,
     ⟨some 14, .pick, [.t 7, .t 13, .k (.b false)], none⟩,
     ⟨some 4, .mv, [.t 14], none⟩])
    .ret))

abbrev Is_impl_isMost (P : Program) (g_f : FuncId) (g_impl_IsSeries g_impl_within : FuncId) : Prop := FnIs P g_f 15 [.t 4] (b_impl_isMost g_impl_IsSeries g_impl_within)

abbrev C_impl_isMost (P : Program) (g_f : FuncId) : Prop := ∀ (a : List Nat) (most : Int) (hx : a.length ≤ maxLen), VCall P g_f [PS [0] .f32 a, .i .i64 most] (.b (seriesM a && (inM most 0 16 && decide (most < a.length))))
def oc1_impl_isMost (as : List AV) : T AV := match as with | [.sl _ _ (.f .f32 a), .i .i64 most] => .leaf (.b (seriesM a && (inM most 0 16 && decide (most < a.length)))) | _ => .fail
def oc_impl_isMost (a : List Nat) (most : Int) (d : Nat) (as : List AV) : T AV := match d with | 6 => oc1_impl_IsSeries as | 13 => oc1_impl_within as | _ => .fail



theorem q_impl_isMost {P : Program} {g_f : FuncId} {g_impl_IsSeries g_impl_within : FuncId} (h_ : Is_impl_isMost P g_f g_impl_IsSeries g_impl_within) (a : List Nat) (most : Int) (ht : T.ok (fun x_ => x_ = .b (seriesM a && (inM most 0 16 && decide (most < a.length)))) (
      T.ob ((VCall P) g_impl_IsSeries [AV.sl (Tag.par [0]) 0 (Cont.f FloatKind.f32 a)] (AV.b (seriesM a)))
        (T.ite (seriesM a)
          (T.ob
            ((VCall P) g_impl_within
              [AV.i IntKind.i64 most, AV.i IntKind.i64 0, AV.i IntKind.i64 (bif decide (IntKind.wrap IntKind.i64 ((↑(List.length a) : Int) - 1) < 16) then IntKind.wrap IntKind.i64 ((↑(List.length a) : Int) - 1) else 16)]
              (AV.b (inM most 0 (bif decide (IntKind.wrap IntKind.i64 ((↑(List.length a) : Int) - 1) < 16) then IntKind.wrap IntKind.i64 ((↑(List.length a) : Int) - 1) else 16))))
            (T.leaf (AV.b (inM most 0 (bif decide (IntKind.wrap IntKind.i64 ((↑(List.length a) : Int) - 1) < 16) then IntKind.wrap IntKind.i64 ((↑(List.length a) : Int) - 1) else 16)))))
          (T.leaf (AV.b false))))) :
    VCall P g_f [PS [0] .f32 a, .i .i64 most] (.b (seriesM a && (inM most 0 16 && decide (most < a.length)))) := h_.call_of ps_impl_isMost ⟨oc_impl_isMost a most, fun _ _ => none⟩ (by kernel_rfl) ht

-- END impl_isMost

-- FN impl_selfLikes
/-- impl.selfLikes: slots 46, results [.t 4, .t 5]; calls [12:g_impl_mean, 13:g_impl_lessOne, 16:g_impl_dot, 36:g_impl_dot, 43:g_impl_ifAll]; names [(a, 0), (most, 1), (a, 2), (most, 3), (rest, 6), (all, 7), (out, 8), (lag, 9)] -/
def ps_impl_selfLikes : List Nat := [0, 1, 4, 5, 6, 7, 8, 9, 19, 22, 23, 24]
def lv_impl_selfLikes_L0 : List Nat := [6, 7, 8, 22, 23]
def b_impl_selfLikes_L0 (g_impl_mean g_impl_lessOne g_impl_dot g_impl_ifAll : FuncId) : VCode :=
  (.seq
   (.region false [
    ⟨some 24, (.bin .lss), [.t 23, .t 22], none⟩])
   (.seq
    (.cond (.t 24)
     .skip
     (.exit 0))
    (.seq
     (.block 1
      (.seq
       (.region false [
        ⟨some 25, .mv, [.t 23], none⟩,
        ⟨some 9, .mv, [.t 25], none⟩])
       (.region true [
        ⟨some 26, .mv, [.t 8], none⟩,
        ⟨some 27, .mv, [.t 6], none⟩,
        ⟨some 28, .mv, [.t 6], none⟩,
        ⟨some 29, .len, [.t 28], none⟩,
        ⟨some 30, .mv, [.t 9], none⟩,
        ⟨some 31, (.bin .sub), [.t 29, .t 30], none⟩,
        ⟨some 32, (.slice false true false), [.t 27, .t 31], none⟩,
        ⟨some 33, .mv, [.t 6], none⟩,
        ⟨some 34, .mv, [.t 9], none⟩,
        ⟨some 35, (.slice true false false), [.t 33, .t 34], none⟩,
        ⟨some 36, (.call g_impl_dot), [.t 32, .t 35], none⟩,
        ⟨some 37, .mv, [.t 7], none⟩,
        ⟨some 38, (.bin .quo), [.t 36, .t 37], none⟩,
        ⟨some 39, (.lit true (.f .f32 [])), [.t 38], none⟩,
        ⟨some 40, .app, [.t 26, .t 39], none⟩,
        ⟨some 8, .mv, [.t 40], none⟩])))
     (.region false [
      ⟨some 41, (.bin .add), [.t 23, .k (.i .i64 1)], none⟩,
      ⟨some 23, .mv, [.t 41], none⟩]))))

def b_impl_selfLikes (g_impl_mean g_impl_lessOne g_impl_dot g_impl_ifAll : FuncId) : VCode :=
  (.seq
   (.region false [
    ⟨some 4, (.nilsl (.f .f32 [])), [], none⟩,
    ⟨some 5, .mv, [.k (.b false)], none⟩])
   (.seq
    (.region false [
     ⟨some 10, .mv, [.t 0], none⟩,
     ⟨some 11, .mv, [.t 0], none⟩,
     ⟨some 12, (.call g_impl_mean), [.t 11], none⟩,
     ⟨some 13, (.call g_impl_lessOne), [.t 10, .t 12], none⟩,
     ⟨some 6, .mv, [.t 13], none⟩])
    (.seq
     (.region false [
      ⟨some 14, .mv, [.t 6], none⟩,
      ⟨some 15, .mv, [.t 6], none⟩,
      ⟨some 16, (.call g_impl_dot), [.t 14, .t 15], none⟩,
      ⟨some 7, .mv, [.t 16], none⟩])
     (.seq
      (.seq
       (.region false [
        ⟨some 17, .mv, [.t 7], none⟩,
        ⟨some 18, (.bin .gtr), [.t 17, .k (.f .f32 0)], none⟩,
        ⟨some 19, .not, [.t 18], none⟩])
       (.cond (.t 19)
        (.seq
         (.region false [
          ⟨some 4, (.nilsl (.f .f32 [])), [], none⟩,
          ⟨some 5, .mv, [.k (.b false)], none⟩])
         .ret)
        .skip))
      (.seq
       (.region false [
        ⟨some 20, (.lit true (.f .f32 [])), [], none⟩,
        ⟨some 8, .mv, [.t 20], none⟩])
       (.seq
        (.seq
         (.region false [
          ⟨some 21, .mv, [.t 1], none⟩,
          ⟨some 22, (.bin .add), [.t 21, .k (.i .i64 1)], none⟩,
          ⟨some 23, .mv, [.k (.i .i64 0)], none⟩])
         (.block 0 (.loop (b_impl_selfLikes_L0 g_impl_mean g_impl_lessOne g_impl_dot g_impl_ifAll))))
        (.seq
         (.region false [
          ⟨some 42, .mv, [.t 8], none⟩,
          ⟨some 43, (.call g_impl_ifAll), [.t 42], none⟩,
          ⟨some 44, (.extract 0), [.t 43], none⟩,
          ⟨some 45, (.extract 1), [.t 43], none⟩,
          ⟨some 4, .mv, [.t 44], none⟩,
          ⟨some 5, .mv, [.t 45], none⟩])
         .ret)))))))

abbrev Is_impl_selfLikes (P : Program) (g_f : FuncId) (g_impl_mean g_impl_lessOne g_impl_dot g_impl_ifAll : FuncId) : Prop := FnIs P g_f 46 [.t 4, .t 5] (b_impl_selfLikes g_impl_mean g_impl_lessOne g_impl_dot g_impl_ifAll)

abbrev C_impl_selfLikes (P : Program) (g_f : FuncId) : Prop := ∀ (a : List Nat) (most : Int) (hm : 0 ≤ most ∧ most ≤ 16 ∧ most < a.length) (hx : a.length ≤ 96), VCall P g_f [PS [0] .f32 a, .i .i64 most] (.tup [OS 0 .f32 (if (fgt .f32 (delM (offM a) 0) 0 && finAllM (likesM a most.toNat)) = true then likesM a most.toNat else []), .b (fgt .f32 (delM (offM a) 0) 0 && finAllM (likesM a most.toNat))])
def oc1_impl_selfLikes (as : List AV) : T AV := match as with | [.sl _ _ (.f .f32 a), .i .i64 most] => .leaf (.tup [OS 0 .f32 (if (fgt .f32 (delM (offM a) 0) 0 && finAllM (likesM a most.toNat)) = true then likesM a most.toNat else []), .b (fgt .f32 (delM (offM a) 0) 0 && finAllM (likesM a most.toNat))]) | _ => .fail
def oc_impl_selfLikes (a : List Nat) (most : Int) (d : Nat) (as : List AV) : T AV := match d with | 12 => oc1_impl_mean as | 13 => oc1_impl_lessOne as | 16 => oc1_impl_dot as | 36 => oc1_impl_dot as | 43 => oc1_impl_ifAll as | _ => .fail
def h_impl_selfLikes_L0 (a : List Nat) (most : Int) (rest : List Nat) (out : List Nat) (v23 : Int) : Env := anys 6 ++ [.sl (Tag.own 104) 0 (.f FloatKind.f32 rest), AV.f FloatKind.f32 (dotM (lessOneM a (meanM a)) (lessOneM a (meanM a))), .sl (Tag.own 160) 0 (.f FloatKind.f32 out)] ++ anys 13 ++ [AV.i IntKind.i64 (IntKind.wrap IntKind.i64 (most + 1)), .i IntKind.i64 v23] ++ anys 22

theorem q_impl_selfLikes_L0 {VC : FuncId → List AV → AV → Prop} {g_impl_mean g_impl_lessOne g_impl_dot g_impl_ifAll : FuncId} (a : List Nat) (most : Int) (rest : List Nat) (out : List Nat) (v23 : Int) {e_ : Ex} {σ_ : Env} (ht : T.ok (fun x_ => x_ = (e_, σ_)) (
      T.ite (decide (v23 < IntKind.wrap IntKind.i64 (most + 1)))
        (T.ob (0 ≤ IntKind.wrap IntKind.i64 ((↑(List.length rest) : Int) - v23) ∧ IntKind.wrap IntKind.i64 ((↑(List.length rest) : Int) - v23) ≤ (↑(List.length rest) : Int))
          (T.ob (0 ≤ v23 ∧ v23 ≤ (↑(List.length rest) : Int))
            (T.ob
              (VC g_impl_dot
                [AV.sl (Tag.par [0]) 0 (Cont.f FloatKind.f32 (List.take (Int.toNat (IntKind.wrap IntKind.i64 ((↑(List.length rest) : Int) - v23))) (List.drop 0 rest))),
                  AV.sl (Tag.par [1]) 0 (Cont.f FloatKind.f32 (List.take (List.length rest - Int.toNat v23) (List.drop (Int.toNat v23) rest)))]
                (AV.f FloatKind.f32
                  (dotM (List.take (Int.toNat (IntKind.wrap IntKind.i64 ((↑(List.length rest) : Int) - v23))) (List.drop 0 rest)) (List.take (List.length rest - Int.toNat v23) (List.drop (Int.toNat v23) rest)))))
              (T.ob True
                (T.ob
                  (List.length out +
                      List.length
                        [fdiv FloatKind.f32
                            (dotM (List.take (Int.toNat (IntKind.wrap IntKind.i64 ((↑(List.length rest) : Int) - v23))) (List.drop 0 rest)) (List.take (List.length rest - Int.toNat v23) (List.drop (Int.toNat v23) rest)))
                            (dotM (lessOneM a (meanM a)) (lessOneM a (meanM a)))] ≤
                    4294967296)
                  (T.leaf
                    (Ex.normal,
                      h_impl_selfLikes_L0 a most rest
                        (out ++
                          [fdiv FloatKind.f32
                              (dotM (List.take (Int.toNat (IntKind.wrap IntKind.i64 ((↑(List.length rest) : Int) - v23))) (List.drop 0 rest)) (List.take (List.length rest - Int.toNat v23) (List.drop (Int.toNat v23) rest)))
                              (dotM (lessOneM a (meanM a)) (lessOneM a (meanM a)))])
                        (IntKind.wrap IntKind.i64 (v23 + 1)))))))))
        (T.leaf (Ex.exit 0, h_impl_selfLikes_L0 a most rest out v23)))) :
    Exec VC ps_impl_selfLikes (b_impl_selfLikes_L0 g_impl_mean g_impl_lessOne g_impl_dot g_impl_ifAll) (h_impl_selfLikes_L0 a most rest out v23) e_ σ_ := evL_of (lv := lv_impl_selfLikes_L0) (rs := [4, 5]) (O := ⟨oc_impl_selfLikes a most, fun _ _ => none⟩) (by kernel_rfl) ht

theorem q_impl_selfLikes {P : Program} {g_f : FuncId} {g_impl_mean g_impl_lessOne g_impl_dot g_impl_ifAll : FuncId} (h_ : Is_impl_selfLikes P g_f g_impl_mean g_impl_lessOne g_impl_dot g_impl_ifAll) (a : List Nat) (most : Int) (ht : T.ok (fun x_ => x_ = .tup [OS 0 .f32 (if (fgt .f32 (delM (offM a) 0) 0 && finAllM (likesM a most.toNat)) = true then likesM a most.toNat else []), .b (fgt .f32 (delM (offM a) 0) 0 && finAllM (likesM a most.toNat))]) (
      T.ob ((VCall P) g_impl_mean [AV.sl (Tag.par [0]) 0 (Cont.f FloatKind.f32 a)] (AV.f FloatKind.f32 (meanM a)))
        (T.ob ((VCall P) g_impl_lessOne [AV.sl (Tag.par [0]) 0 (Cont.f FloatKind.f32 a), AV.f FloatKind.f32 (meanM a)] (AV.sl (Tag.own 0) 0 (Cont.f FloatKind.f32 (lessOneM a (meanM a)))))
          (T.ob
            ((VCall P) g_impl_dot [AV.sl (Tag.par [0]) 0 (Cont.f FloatKind.f32 (lessOneM a (meanM a))), AV.sl (Tag.par [1]) 0 (Cont.f FloatKind.f32 (lessOneM a (meanM a)))]
              (AV.f FloatKind.f32 (dotM (lessOneM a (meanM a)) (lessOneM a (meanM a)))))
            (T.ite (!fgt FloatKind.f32 (dotM (lessOneM a (meanM a)) (lessOneM a (meanM a))) 0) (T.leaf (AV.tup [AV.sl (Tag.own 0) 0 (Cont.f FloatKind.f32 []), AV.b false]))
              (T.ob
                (Exec (VCall P) ps_impl_selfLikes (VCode.block 0 (VCode.loop (b_impl_selfLikes_L0 g_impl_mean g_impl_lessOne g_impl_dot g_impl_ifAll))) (h_impl_selfLikes_L0 a most (lessOneM a (meanM a)) [] 0) Ex.normal
                  (h_impl_selfLikes_L0 a most (offM a) (likesM a (Int.toNat most)) (most + 1)))
                (T.ob
                  ((VCall P) g_impl_ifAll [AV.sl (Tag.par [0]) 0 (Cont.f FloatKind.f32 (likesM a (Int.toNat most)))]
                    (AV.tup [AV.sl (Tag.par [0]) 0 (Cont.f FloatKind.f32 (ifAllM (likesM a (Int.toNat most)))), AV.b (finAllM (likesM a (Int.toNat most)))]))
                  (T.leaf (AV.tup [AV.sl (Tag.own 0) 0 (Cont.f FloatKind.f32 (ifAllM (likesM a (Int.toNat most)))), AV.b (finAllM (likesM a (Int.toNat most)))]))))))))) :
    VCall P g_f [PS [0] .f32 a, .i .i64 most] (.tup [OS 0 .f32 (if (fgt .f32 (delM (offM a) 0) 0 && finAllM (likesM a most.toNat)) = true then likesM a most.toNat else []), .b (fgt .f32 (delM (offM a) 0) 0 && finAllM (likesM a most.toNat))]) := h_.call_of ps_impl_selfLikes ⟨oc_impl_selfLikes a most, fun id σ => match id with | 0 => some (lv_impl_selfLikes_L0, .leaf (.normal, h_impl_selfLikes_L0 a most (offM a) (likesM a most.toNat) (most + 1))) | _ => none⟩ (by kernel_rfl) ht

-- END impl_selfLikes

-- FN impl_SelfLikes
/-- impl.SelfLikes: slots 15, results [.t 4, .t 5]; calls [8:g_impl_isMost, 12:g_impl_selfLikes]; names [(a, 0), (most, 1), (a, 2), (most, 3)] -/
def ps_impl_SelfLikes : List Nat := [0, 1, 4, 5, 9]
def b_impl_SelfLikes (g_impl_isMost g_impl_selfLikes : FuncId) : VCode :=
  (.seq
   (.region false [
    ⟨some 4, (.nilsl (.f .f32 [])), [], none⟩,
    ⟨some 5, .mv, [.k (.b false)], none⟩])
   (.seq
    (.seq
     (.region false [
      ⟨some 6, .mv, [.t 0], none⟩,
      ⟨some 7, .mv, [.t 1], none⟩,
      ⟨some 8, (.call g_impl_isMost), [.t 6, .t 7], none⟩,
      ⟨some 9, .not, [.t 8], none⟩])
     (.cond (.t 9)
      (.seq
       (.region false [
        ⟨some 4, (.nilsl (.f .f32 [])), [], none⟩,
        ⟨some 5, .mv, [.k (.b false)], none⟩])
       .ret)
      .skip))
    (.seq
     (.region false [
      ⟨some 10, .mv, [.t 0], none⟩,
      ⟨some 11, .mv, [.t 1], none⟩,
      ⟨some 12, (.call g_impl_selfLikes), [.t 10, .t 11], none⟩,
      ⟨some 13, (.extract 0), [.t 12], none⟩,
      ⟨some 14, (.extract 1), [.t 12], none⟩,
      ⟨some 4, .mv, [.t 13], none⟩,
      ⟨some 5, .mv, [.t 14], none⟩])
     .ret)))

abbrev Is_impl_SelfLikes (P : Program) (g_f : FuncId) (g_impl_isMost g_impl_selfLikes : FuncId) : Prop := FnIs P g_f 15 [.t 4, .t 5] (b_impl_SelfLikes g_impl_isMost g_impl_selfLikes)

abbrev C_impl_SelfLikes (P : Program) (g_f : FuncId) : Prop := ∀ (a : List Nat) (most : Int) (hx : a.length ≤ maxLen), VCall P g_f [PS [0] .f32 a, .i .i64 most] (.tup [OS 0 .f32 (likesOut a most), .b (likesOk a most)])
def oc1_impl_SelfLikes (as : List AV) : T AV := match as with | [.sl _ _ (.f .f32 a), .i .i64 most] => .leaf (.tup [OS 0 .f32 (likesOut a most), .b (likesOk a most)]) | _ => .fail
def oc_impl_SelfLikes (a : List Nat) (most : Int) (d : Nat) (as : List AV) : T AV := match d with | 8 => oc1_impl_isMost as | 12 => oc1_impl_selfLikes as | _ => .fail



theorem q_impl_SelfLikes {P : Program} {g_f : FuncId} {g_impl_isMost g_impl_selfLikes : FuncId} (h_ : Is_impl_SelfLikes P g_f g_impl_isMost g_impl_selfLikes) (a : List Nat) (most : Int) (ht : T.ok (fun x_ => x_ = .tup [OS 0 .f32 (likesOut a most), .b (likesOk a most)]) (
      T.ob ((VCall P) g_impl_isMost [AV.sl (Tag.par [0]) 0 (Cont.f FloatKind.f32 a), AV.i IntKind.i64 most] (AV.b (seriesM a && (inM most 0 16 && decide (most < (↑(List.length a) : Int))))))
        (T.ite (!(seriesM a && (inM most 0 16 && decide (most < (↑(List.length a) : Int))))) (T.leaf (AV.tup [AV.sl (Tag.own 0) 0 (Cont.f FloatKind.f32 []), AV.b false]))
          (T.ob
            ((VCall P) g_impl_selfLikes [AV.sl (Tag.par [0]) 0 (Cont.f FloatKind.f32 a), AV.i IntKind.i64 most]
              (AV.tup
                [AV.sl (Tag.own 0) 0 (Cont.f FloatKind.f32 (if (fgt FloatKind.f32 (delM (offM a) 0) 0 && finAllM (likesM a (Int.toNat most))) = true then likesM a (Int.toNat most) else [])),
                  AV.b (fgt FloatKind.f32 (delM (offM a) 0) 0 && finAllM (likesM a (Int.toNat most)))]))
            (T.leaf
              (AV.tup
                [AV.sl (Tag.own 0) 0 (Cont.f FloatKind.f32 (if (fgt FloatKind.f32 (delM (offM a) 0) 0 && finAllM (likesM a (Int.toNat most))) = true then likesM a (Int.toNat most) else [])),
                  AV.b (fgt FloatKind.f32 (delM (offM a) 0) 0 && finAllM (likesM a (Int.toNat most)))])))))) :
    VCall P g_f [PS [0] .f32 a, .i .i64 most] (.tup [OS 0 .f32 (likesOut a most), .b (likesOk a most)]) := h_.call_of ps_impl_SelfLikes ⟨oc_impl_SelfLikes a most, fun _ _ => none⟩ (by kernel_rfl) ht

-- END impl_SelfLikes

-- FN spec_l03Off
/-- spec.l03Off: slots 25, results [.t 2]; calls [7:g_spec_l03Mean]; names [(a, 0), (a, 1), (mean, 3), (out, 4), (i, 5)] -/
def ps_spec_l03Off : List Nat := [0, 2, 3, 4, 5, 10, 11, 12]
def lv_spec_l03Off_L0 : List Nat := [0, 3, 4, 10, 11]
def b_spec_l03Off_L0 (g_spec_l03Mean : FuncId) : VCode :=
  (.seq
   (.region false [
    ⟨some 12, (.bin .lss), [.t 11, .t 10], none⟩])
   (.seq
    (.cond (.t 12)
     .skip
     (.exit 0))
    (.seq
     (.block 1
      (.seq
       (.region false [
        ⟨some 13, .mv, [.t 11], none⟩,
        ⟨some 5, .mv, [.t 13], none⟩])
       (.region false [
        ⟨some 14, .mv, [.t 4], none⟩,
        ⟨some 15, .mv, [.t 0], none⟩,
        ⟨some 16, .mv, [.t 5], none⟩,
        ⟨some 17, .iaddr, [.t 15, .t 16], none⟩,
        ⟨some 18, .load, [.t 17], none⟩,
        ⟨some 19, .mv, [.t 3], none⟩,
        ⟨some 20, (.bin .sub), [.t 18, .t 19], none⟩,
        ⟨some 21, (.lit true (.f .f32 [])), [.t 20], none⟩,
        ⟨some 22, .app, [.t 14, .t 21], none⟩,
        ⟨some 4, .mv, [.t 22], none⟩])))
     (.region false [
      ⟨some 23, (.bin .add), [.t 11, .k (.i .i64 1)], none⟩,
      ⟨some 11, .mv, [.t 23], none⟩]))))

def b_spec_l03Off (g_spec_l03Mean : FuncId) : VCode :=
  (.seq
   (.region false [
    ⟨some 2, (.nilsl (.f .f32 [])), [], none⟩])
   (.seq
    (.region false [
     ⟨some 6, .mv, [.t 0], none⟩,
     ⟨some 7, (.call g_spec_l03Mean), [.t 6], none⟩,
     ⟨some 3, .mv, [.t 7], none⟩])
    (.seq
     (.region false [
      ⟨some 8, (.lit true (.f .f32 [])), [], none⟩,
      ⟨some 4, .mv, [.t 8], none⟩])
     (.seq
      (.seq
       (.region false [
        ⟨some 9, .mv, [.t 0], none⟩,
        ⟨some 10, .len, [.t 9], none⟩,
        ⟨some 11, .mv, [.k (.i .i64 0)], none⟩])
       (.block 0 (.loop (b_spec_l03Off_L0 g_spec_l03Mean))))
      (.seq
       (.region false [
        ⟨some 24, .mv, [.t 4], none⟩,
        ⟨some 2, .mv, [.t 24], none⟩])
       .ret)))))

abbrev Is_spec_l03Off (P : Program) (g_f : FuncId) (g_spec_l03Mean : FuncId) : Prop := FnIs P g_f 25 [.t 2] (b_spec_l03Off g_spec_l03Mean)

abbrev C_spec_l03Off (P : Program) (g_f : FuncId) : Prop := ∀ (a : List Nat) (hx : a.length ≤ 96), VCall P g_f [PS [0] .f32 a] (OS 0 .f32 (offM a))
def oc1_spec_l03Off (as : List AV) : T AV := match as with | [.sl _ _ (.f .f32 a)] => .leaf (OS 0 .f32 (offM a)) | _ => .fail
def oc_spec_l03Off (a : List Nat) (d : Nat) (as : List AV) : T AV := match d with | 7 => oc1_spec_l03Mean as | _ => .fail
def h_spec_l03Off_L0 (a : List Nat) (out : List Nat) (v11 : Int) : Env := [AV.sl (Tag.par [0]) 0 (Cont.f FloatKind.f32 a), .any, .any, AV.f FloatKind.f32 (meanM a), .sl (Tag.own 64) 0 (.f FloatKind.f32 out)] ++ anys 5 ++ [AV.i IntKind.i64 (↑(List.length a) : Int), .i IntKind.i64 v11] ++ anys 13

theorem q_spec_l03Off_L0 {VC : FuncId → List AV → AV → Prop} {g_spec_l03Mean : FuncId} (a : List Nat) (out : List Nat) (v11 : Int) {e_ : Ex} {σ_ : Env} (ht : T.ok (fun x_ => x_ = (e_, σ_)) (
      T.ite (decide (v11 < (↑(List.length a) : Int)))
        (T.ob (0 ≤ v11 ∧ v11 < (↑(List.length a) : Int))
          (T.ob (List.length out + List.length [fsub FloatKind.f32 (List.getD a (Int.toNat v11) 0) (meanM a)] ≤ 4294967296)
            (T.leaf (Ex.normal, h_spec_l03Off_L0 a (out ++ [fsub FloatKind.f32 (List.getD a (Int.toNat v11) 0) (meanM a)]) (IntKind.wrap IntKind.i64 (v11 + 1))))))
        (T.leaf (Ex.exit 0, h_spec_l03Off_L0 a out v11)))) :
    Exec VC ps_spec_l03Off (b_spec_l03Off_L0 g_spec_l03Mean) (h_spec_l03Off_L0 a out v11) e_ σ_ := evL_of (lv := lv_spec_l03Off_L0) (rs := [2]) (O := ⟨oc_spec_l03Off a, fun _ _ => none⟩) (by kernel_rfl) ht

theorem q_spec_l03Off {P : Program} {g_f : FuncId} {g_spec_l03Mean : FuncId} (h_ : Is_spec_l03Off P g_f g_spec_l03Mean) (a : List Nat) (ht : T.ok (fun x_ => x_ = OS 0 .f32 (offM a)) (
      T.ob ((VCall P) g_spec_l03Mean [AV.sl (Tag.par [0]) 0 (Cont.f FloatKind.f32 a)] (AV.f FloatKind.f32 (meanM a)))
        (T.ob (Exec (VCall P) ps_spec_l03Off (VCode.block 0 (VCode.loop (b_spec_l03Off_L0 g_spec_l03Mean))) (h_spec_l03Off_L0 a [] 0) Ex.normal (h_spec_l03Off_L0 a (offM a) (↑(List.length a) : Int)))
          (T.leaf (AV.sl (Tag.own 0) 0 (Cont.f FloatKind.f32 (offM a))))))) :
    VCall P g_f [PS [0] .f32 a] (OS 0 .f32 (offM a)) := h_.call_of ps_spec_l03Off ⟨oc_spec_l03Off a, fun id σ => match id with | 0 => some (lv_spec_l03Off_L0, .leaf (.normal, h_spec_l03Off_L0 a (offM a) a.length)) | _ => none⟩ (by kernel_rfl) ht

-- END spec_l03Off

/-- the sum of products with another's numbers a lag later -/
def cdelM (a b : List Nat) (lag : Int) : Nat := accN (fun i s => if 0 ≤ (i : Int) + lag ∧ (i : Int) + lag < b.length then fadd .f32 s (fmul .f32 (a.getD i 0) (b.getD ((i : Int) + lag).toNat 0)) else s) a.length 0

-- FN spec_l03Delayed
/-- spec.l03Delayed: slots 41, results [.t 6]; calls []; names [(a, 0), (b, 1), (lag, 2), (a, 3), (b, 4), (lag, 5), (sum, 7), (i, 8)] -/
def ps_spec_l03Delayed : List Nat := [0, 1, 2, 6, 7, 8, 10, 11, 12, 25]
def lv_spec_l03Delayed_L0 : List Nat := [0, 1, 2, 7, 10, 11]
def b_spec_l03Delayed_L0 : VCode :=
  (.seq
   (.region false [
    ⟨some 12, (.bin .lss), [.t 11, .t 10], none⟩])
   (.seq
    (.cond (.t 12)
     .skip
     (.exit 0))
    (.seq
     (.block 1
      (.seq
       (.region false [
        ⟨some 13, .mv, [.t 11], none⟩,
        ⟨some 8, .mv, [.t 13], none⟩])
       (.seq
        (.region false [
         ⟨some 14, .mv, [.t 8], none⟩,
         ⟨some 15, .mv, [.t 2], none⟩,
         ⟨some 16, (.bin .add), [.t 14, .t 15], none⟩,
         ⟨some 17, (.bin .geq), [.t 16, .k (.i .i64 0)], none⟩,
         ⟨some 18, .mv, [.t 17], none⟩,
         ⟨some 19, .mv, [.t 8], some (18, true)⟩,
         ⟨some 20, .mv, [.t 2], some (18, true)⟩,
         ⟨some 21, (.bin .add), [.t 19, .t 20], some (18, true)⟩,
         ⟨some 22, .mv, [.t 1], some (18, true)⟩,
         ⟨some 23, .len, [.t 22], some (18, true)⟩,
         ⟨some 24, (.bin .lss), [.t 21, .t 23], some (18, true)⟩,
         ⟨some 25, .pick, [.t 18, .t 24, .k (.b false)], none⟩])
        (.cond (.t 25)
         (.region true [
          ⟨some 26, .mv, [.t 7], none⟩,
          ⟨some 27, .mv, [.t 0], none⟩,
          ⟨some 28, .mv, [.t 8], none⟩,
          ⟨some 29, .iaddr, [.t 27, .t 28], none⟩,
          ⟨some 30, .load, [.t 29], none⟩,
          ⟨some 31, .mv, [.t 1], none⟩,
          ⟨some 32, .mv, [.t 8], none⟩,
          ⟨some 33, .mv, [.t 2], none⟩,
          ⟨some 34, (.bin .add), [.t 32, .t 33], none⟩,
          ⟨some 35, .iaddr, [.t 31, .t 34], none⟩,
          ⟨some 36, .load, [.t 35], none⟩,
          ⟨some 37, (.bin .mul), [.t 30, .t 36], none⟩,
          ⟨some 38, (.bin .add), [.t 26, .t 37], none⟩,
          ⟨some 7, .mv, [.t 38], none⟩])
         .skip))))
     (.region false [
      ⟨some 39, (.bin .add), [.t 11, .k (.i .i64 1)], none⟩,
      ⟨some 11, .mv, [.t 39], none⟩]))))

def b_spec_l03Delayed : VCode :=
  (.seq
   (.region false [
    ⟨some 6, .mv, [.k (.f .f32 0)], none⟩])
   (.seq
    (.region false [
     ⟨some 7, .mv, [.k (.f .f32 0)], none⟩])
    (.seq
     (.seq
      (.region false [
       ⟨some 9, .mv, [.t 0], none⟩,
       ⟨some 10, .len, [.t 9], none⟩,
       ⟨some 11, .mv, [.k (.i .i64 0)], none⟩])
      (.block 0 (.loop b_spec_l03Delayed_L0)))
     (.seq
      (.region false [
       ⟨some 40, .mv, [.t 7], none⟩,
       ⟨some 6, .mv, [.t 40], none⟩])
      .ret))))

abbrev Is_spec_l03Delayed (P : Program) (g_f : FuncId) : Prop := FnIs P g_f 41 [.t 6] (b_spec_l03Delayed)

abbrev C_spec_l03Delayed (P : Program) (g_f : FuncId) : Prop := ∀ (a : List Nat) (b : List Nat) (lag : Int) (hl : -96 ≤ lag ∧ lag ≤ 96) (hx : a.length ≤ 96) (hy : b.length ≤ 96), VCall P g_f [PS [0] .f32 a, PS [1] .f32 b, .i .i64 lag] (.f .f32 (cdelM a b lag))
def oc1_spec_l03Delayed (as : List AV) : T AV := match as with | [.sl _ _ (.f .f32 a), .sl _ _ (.f .f32 b), .i .i64 lag] => .leaf (.f .f32 (cdelM a b lag)) | _ => .fail
def h_spec_l03Delayed_L0 (a : List Nat) (b : List Nat) (lag : Int) (sum : Nat) (v11 : Int) : Env := [AV.sl (Tag.par [0]) 0 (Cont.f FloatKind.f32 a), AV.sl (Tag.par [1]) 0 (Cont.f FloatKind.f32 b), AV.i IntKind.i64 lag] ++ anys 4 ++ [.f FloatKind.f32 sum, .any, .any, AV.i IntKind.i64 (↑(List.length a) : Int), .i IntKind.i64 v11] ++ anys 29

theorem q_spec_l03Delayed_L0 {VC : FuncId → List AV → AV → Prop} (a : List Nat) (b : List Nat) (lag : Int) (sum : Nat) (v11 : Int) {e_ : Ex} {σ_ : Env} (ht : T.ok (fun x_ => x_ = (e_, σ_)) (
      T.ite (decide (v11 < (↑(List.length a) : Int)))
        (T.ite (decide (IntKind.wrap IntKind.i64 (v11 + lag) ≥ 0))
          (T.ite (decide (IntKind.wrap IntKind.i64 (v11 + lag) < (↑(List.length b) : Int)))
            (T.ob (0 ≤ v11 ∧ v11 < (↑(List.length a) : Int))
              (T.ob (0 ≤ IntKind.wrap IntKind.i64 (v11 + lag) ∧ IntKind.wrap IntKind.i64 (v11 + lag) < (↑(List.length b) : Int))
                (T.leaf
                  (Ex.normal,
                    h_spec_l03Delayed_L0 a b lag (fadd FloatKind.f32 sum (fmul FloatKind.f32 (List.getD a (Int.toNat v11) 0) (List.getD b (Int.toNat (IntKind.wrap IntKind.i64 (v11 + lag))) 0)))
                      (IntKind.wrap IntKind.i64 (v11 + 1))))))
            (T.leaf (Ex.normal, h_spec_l03Delayed_L0 a b lag sum (IntKind.wrap IntKind.i64 (v11 + 1)))))
          (T.leaf (Ex.normal, h_spec_l03Delayed_L0 a b lag sum (IntKind.wrap IntKind.i64 (v11 + 1)))))
        (T.leaf (Ex.exit 0, h_spec_l03Delayed_L0 a b lag sum v11)))) :
    Exec VC ps_spec_l03Delayed (b_spec_l03Delayed_L0) (h_spec_l03Delayed_L0 a b lag sum v11) e_ σ_ := evL_of (lv := lv_spec_l03Delayed_L0) (rs := [6]) (O := ⟨fun _ _ => .fail, fun _ _ => none⟩) (by kernel_rfl) ht

theorem q_spec_l03Delayed {P : Program} {g_f : FuncId} (h_ : Is_spec_l03Delayed P g_f) (a : List Nat) (b : List Nat) (lag : Int) (ht : T.ok (fun x_ => x_ = .f .f32 (cdelM a b lag)) (
      T.ob (Exec (VCall P) ps_spec_l03Delayed (VCode.block 0 (VCode.loop b_spec_l03Delayed_L0)) (h_spec_l03Delayed_L0 a b lag 0 0) Ex.normal (h_spec_l03Delayed_L0 a b lag (cdelM a b lag) (↑(List.length a) : Int)))
        (T.leaf (AV.f FloatKind.f32 (cdelM a b lag))))) :
    VCall P g_f [PS [0] .f32 a, PS [1] .f32 b, .i .i64 lag] (.f .f32 (cdelM a b lag)) := h_.call_of ps_spec_l03Delayed ⟨fun _ _ => .fail, fun id σ => match id with | 0 => some (lv_spec_l03Delayed_L0, .leaf (.normal, h_spec_l03Delayed_L0 a b lag (cdelM a b lag) a.length)) | _ => none⟩ (by kernel_rfl) ht

-- END spec_l03Delayed

-- FN spec_SelfLikes
/-- spec.SelfLikes: slots 51, results [.t 4, .t 5]; calls [11:g_spec_l02Series, 15:g_spec_l00In, 25:g_spec_l03Off, 28:g_spec_l03Delayed, 42:g_spec_l03Delayed, 48:g_spec_l03Given]; names [(a, 0), (most, 1), (a, 2), (most, 3), (off, 6), (all, 7), (out, 8), (lag, 9)] -/
def ps_spec_SelfLikes : List Nat := [0, 1, 4, 5, 6, 7, 8, 9, 23, 31, 35]
def lv_spec_SelfLikes_L0 : List Nat := [1, 6, 7, 8, 9]
def b_spec_SelfLikes_L0 (g_spec_l02Series g_spec_l00In g_spec_l03Off g_spec_l03Delayed g_spec_l03Given : FuncId) : VCode :=
  (.seq
   (.seq
    (.region false [
     ⟨some 33, .mv, [.t 9], none⟩,
     ⟨some 34, .mv, [.t 1], none⟩,
     ⟨some 35, (.bin .leq), [.t 33, .t 34], none⟩])
    (.cond (.t 35)
     .skip
     (.exit 0)))
   (.seq
    (.block 1
     (.region false [
      ⟨some 38, .mv, [.t 8], none⟩,
      ⟨some 39, .mv, [.t 6], none⟩,
      ⟨some 40, .mv, [.t 6], none⟩,
      ⟨some 41, .mv, [.t 9], none⟩,
      ⟨some 42, (.call g_spec_l03Delayed), [.t 39, .t 40, .t 41], none⟩,
      ⟨some 43, .mv, [.t 7], none⟩,
      ⟨some 44, (.bin .quo), [.t 42, .t 43], none⟩,
      ⟨some 45, (.lit true (.f .f32 [])), [.t 44], none⟩,
      ⟨some 46, .app, [.t 38, .t 45], none⟩,
      ⟨some 8, .mv, [.t 46], none⟩]))
    (.region false [
     ⟨some 36, .mv, [.t 9], none⟩,
     ⟨some 37, (.bin .add), [.t 36, .k (.i .i64 1)], none⟩,
     ⟨some 9, .mv, [.t 37], none⟩])))

def b_spec_SelfLikes (g_spec_l02Series g_spec_l00In g_spec_l03Off g_spec_l03Delayed g_spec_l03Given : FuncId) : VCode :=
  (.seq
   (.region false [
    ⟨some 4, (.nilsl (.f .f32 [])), [], none⟩,
    ⟨some 5, .mv, [.k (.b false)], none⟩])
   (.seq
    (.seq
     (.region false [
      ⟨some 10, .mv, [.t 0], none⟩,
      ⟨some 11, (.call g_spec_l02Series), [.t 10], none⟩,
      ⟨some 12, .not, [.t 11], none⟩,
      ⟨some 13, .mv, [.t 12], none⟩,
      ⟨some 14, .mv, [.t 1], some (13, false)⟩,
      ⟨some 15, (.call g_spec_l00In), [.t 14, .k (.i .i64 0), .k (.i .i64 16)], some (13, false)⟩,
      ⟨some 16, .not, [.t 15], some (13, false)⟩,
      ⟨some 17, .pick, [.t 13, .k (.b true), .t 16], none⟩,
      ⟨some 18, .mv, [.t 17], none⟩,
      ⟨some 19, .mv, [.t 1], some (18, false)⟩,
      ⟨some 20, .mv, [.t 0], some (18, false)⟩,
      ⟨some 21, .len, [.t 20], some (18, false)⟩,
      ⟨some 22, (.bin .geq), [.t 19, .t 21], some (18, false)⟩,
      ⟨some 23, .pick, [.t 18, .k (.b true), .t 22], none⟩])
     (.cond (.t 23)
      (.seq
       (.region false [
        ⟨some 4, (.nilsl (.f .f32 [])), [], none⟩,
        ⟨some 5, .mv, [.k (.b false)], none⟩])
       .ret)
      .skip))
    (.seq
     (.region false [
      ⟨some 24, .mv, [.t 0], none⟩,
      ⟨some 25, (.call g_spec_l03Off), [.t 24], none⟩,
      ⟨some 6, .mv, [.t 25], none⟩])
     (.seq
      (.region false [
       ⟨some 26, .mv, [.t 6], none⟩,
       ⟨some 27, .mv, [.t 6], none⟩,
       ⟨some 28, (.call g_spec_l03Delayed), [.t 26, .t 27, .k (.i .i64 0)], none⟩,
       ⟨some 7, .mv, [.t 28], none⟩])
      (.seq
       (.seq
        (.region false [
         ⟨some 29, .mv, [.t 7], none⟩,
         ⟨some 30, (.bin .gtr), [.t 29, .k (.f .f32 0)], none⟩,
         ⟨some 31, .not, [.t 30], none⟩])
        (.cond (.t 31)
         (.seq
          (.region false [
           ⟨some 4, (.nilsl (.f .f32 [])), [], none⟩,
           ⟨some 5, .mv, [.k (.b false)], none⟩])
          .ret)
         .skip))
       (.seq
        (.region false [
         ⟨some 32, (.lit true (.f .f32 [])), [], none⟩,
         ⟨some 8, .mv, [.t 32], none⟩])
        (.seq
         (.seq
          (.region false [
           ⟨some 9, .mv, [.k (.i .i64 0)], none⟩])
          (.block 0 (.loop (b_spec_SelfLikes_L0 g_spec_l02Series g_spec_l00In g_spec_l03Off g_spec_l03Delayed g_spec_l03Given))))
         (.seq
          (.region false [
           ⟨some 47, .mv, [.t 8], none⟩,
           ⟨some 48, (.call g_spec_l03Given), [.t 47], none⟩,
           ⟨some 49, (.extract 0), [.t 48], none⟩,
           ⟨some 50, (.extract 1), [.t 48], none⟩,
           ⟨some 4, .mv, [.t 49], none⟩,
           ⟨some 5, .mv, [.t 50], none⟩])
          .ret))))))))

abbrev Is_spec_SelfLikes (P : Program) (g_f : FuncId) (g_spec_l02Series g_spec_l00In g_spec_l03Off g_spec_l03Delayed g_spec_l03Given : FuncId) : Prop := FnIs P g_f 51 [.t 4, .t 5] (b_spec_SelfLikes g_spec_l02Series g_spec_l00In g_spec_l03Off g_spec_l03Delayed g_spec_l03Given)

abbrev C_spec_SelfLikes (P : Program) (g_f : FuncId) : Prop := ∀ (a : List Nat) (most : Int) (hx : a.length ≤ maxLen), VCall P g_f [PS [0] .f32 a, .i .i64 most] (.tup [OS 0 .f32 (likesOut a most), .b (likesOk a most)])
def oc1_spec_SelfLikes (as : List AV) : T AV := match as with | [.sl _ _ (.f .f32 a), .i .i64 most] => .leaf (.tup [OS 0 .f32 (likesOut a most), .b (likesOk a most)]) | _ => .fail
def oc_spec_SelfLikes (a : List Nat) (most : Int) (d : Nat) (as : List AV) : T AV := match d with | 11 => oc1_spec_l02Series as | 15 => oc1_spec_l00In as | 25 => oc1_spec_l03Off as | 28 => oc1_spec_l03Delayed as | 42 => oc1_spec_l03Delayed as | 48 => oc1_spec_l03Given as | _ => .fail
def h_spec_SelfLikes_L0 (a : List Nat) (most : Int) (off : List Nat) (out : List Nat) (lag : Int) : Env := [.any, AV.i IntKind.i64 most] ++ anys 4 ++ [.sl (Tag.own 200) 0 (.f FloatKind.f32 off), AV.f FloatKind.f32 (cdelM (offM a) (offM a) 0), .sl (Tag.own 256) 0 (.f FloatKind.f32 out), .i IntKind.i64 lag] ++ anys 41

theorem q_spec_SelfLikes_L0 {VC : FuncId → List AV → AV → Prop} {g_spec_l02Series g_spec_l00In g_spec_l03Off g_spec_l03Delayed g_spec_l03Given : FuncId} (a : List Nat) (most : Int) (off : List Nat) (out : List Nat) (lag : Int) {e_ : Ex} {σ_ : Env} (ht : T.ok (fun x_ => x_ = (e_, σ_)) (
      T.ite (decide (lag ≤ most))
        (T.ob (VC g_spec_l03Delayed [AV.sl (Tag.par [0]) 0 (Cont.f FloatKind.f32 off), AV.sl (Tag.par [1]) 0 (Cont.f FloatKind.f32 off), AV.i IntKind.i64 lag] (AV.f FloatKind.f32 (cdelM off off lag)))
          (T.ob True
            (T.ob (List.length out + List.length [fdiv FloatKind.f32 (cdelM off off lag) (cdelM (offM a) (offM a) 0)] ≤ 4294967296)
              (T.leaf (Ex.normal, h_spec_SelfLikes_L0 a most off (out ++ [fdiv FloatKind.f32 (cdelM off off lag) (cdelM (offM a) (offM a) 0)]) (IntKind.wrap IntKind.i64 (lag + 1)))))))
        (T.leaf (Ex.exit 0, h_spec_SelfLikes_L0 a most off out lag)))) :
    Exec VC ps_spec_SelfLikes (b_spec_SelfLikes_L0 g_spec_l02Series g_spec_l00In g_spec_l03Off g_spec_l03Delayed g_spec_l03Given) (h_spec_SelfLikes_L0 a most off out lag) e_ σ_ := evL_of (lv := lv_spec_SelfLikes_L0) (rs := [4, 5]) (O := ⟨oc_spec_SelfLikes a most, fun _ _ => none⟩) (by kernel_rfl) ht

theorem q_spec_SelfLikes {P : Program} {g_f : FuncId} {g_spec_l02Series g_spec_l00In g_spec_l03Off g_spec_l03Delayed g_spec_l03Given : FuncId} (h_ : Is_spec_SelfLikes P g_f g_spec_l02Series g_spec_l00In g_spec_l03Off g_spec_l03Delayed g_spec_l03Given) (a : List Nat) (most : Int) (ht : T.ok (fun x_ => x_ = .tup [OS 0 .f32 (likesOut a most), .b (likesOk a most)]) (
      T.ob ((VCall P) g_spec_l02Series [AV.sl (Tag.par [0]) 0 (Cont.f FloatKind.f32 a)] (AV.b (seriesM a)))
        (T.ite (!seriesM a) (T.leaf (AV.tup [AV.sl (Tag.own 0) 0 (Cont.f FloatKind.f32 []), AV.b false]))
          (T.ob ((VCall P) g_spec_l00In [AV.i IntKind.i64 most, AV.i IntKind.i64 0, AV.i IntKind.i64 16] (AV.b (inM most 0 16)))
            (T.ite (!inM most 0 16) (T.leaf (AV.tup [AV.sl (Tag.own 0) 0 (Cont.f FloatKind.f32 []), AV.b false]))
              (T.ite (decide (most ≥ (↑(List.length a) : Int))) (T.leaf (AV.tup [AV.sl (Tag.own 0) 0 (Cont.f FloatKind.f32 []), AV.b false]))
                (T.ob ((VCall P) g_spec_l03Off [AV.sl (Tag.par [0]) 0 (Cont.f FloatKind.f32 a)] (AV.sl (Tag.own 0) 0 (Cont.f FloatKind.f32 (offM a))))
                  (T.ob ((VCall P) g_spec_l03Delayed [AV.sl (Tag.par [0]) 0 (Cont.f FloatKind.f32 (offM a)), AV.sl (Tag.par [1]) 0 (Cont.f FloatKind.f32 (offM a)), AV.i IntKind.i64 0] (AV.f FloatKind.f32 (cdelM (offM a) (offM a) 0)))
                    (T.ite (!fgt FloatKind.f32 (cdelM (offM a) (offM a) 0) 0) (T.leaf (AV.tup [AV.sl (Tag.own 0) 0 (Cont.f FloatKind.f32 []), AV.b false]))
                      (T.ob
                        (Exec (VCall P) ps_spec_SelfLikes (VCode.block 0 (VCode.loop (b_spec_SelfLikes_L0 g_spec_l02Series g_spec_l00In g_spec_l03Off g_spec_l03Delayed g_spec_l03Given))) (h_spec_SelfLikes_L0 a most (offM a) [] 0)
                          Ex.normal (h_spec_SelfLikes_L0 a most (offM a) (likesM a (Int.toNat most)) (most + 1)))
                        (T.ob
                          ((VCall P) g_spec_l03Given [AV.sl (Tag.par [0]) 0 (Cont.f FloatKind.f32 (likesM a (Int.toNat most)))]
                            (AV.tup [AV.sl (Tag.par [0]) 0 (Cont.f FloatKind.f32 (ifAllM (likesM a (Int.toNat most)))), AV.b (finAllM (likesM a (Int.toNat most)))]))
                          (T.leaf (AV.tup [AV.sl (Tag.own 0) 0 (Cont.f FloatKind.f32 (ifAllM (likesM a (Int.toNat most)))), AV.b (finAllM (likesM a (Int.toNat most)))]))))))))))))) :
    VCall P g_f [PS [0] .f32 a, .i .i64 most] (.tup [OS 0 .f32 (likesOut a most), .b (likesOk a most)]) := h_.call_of ps_spec_SelfLikes ⟨oc_spec_SelfLikes a most, fun id σ => match id with | 0 => some (lv_spec_SelfLikes_L0, .leaf (.normal, h_spec_SelfLikes_L0 a most (offM a) (likesM a most.toNat) (most + 1))) | _ => none⟩ (by kernel_rfl) ht

-- END spec_SelfLikes

def lsSum (n : Nat) (r : List Nat) : Nat := accN (fun j s => fadd .f32 s (fdiv .f32 (fmul .f32 (r.getD (j + 1) 0) (r.getD (j + 1) 0)) (fofi .f32 (n - (j + 1) : Nat)))) (r.length - 1) 0
def lsM (a r : List Nat) : Nat := fmul .f32 (fmul .f32 (fofi .f32 a.length) (fadd .f32 (fofi .f32 a.length) 1073741824)) (lsSum a.length r)
def lsOk (a : List Nat) (most : Int) : Bool := likesOk a most && finM (lsM a (likesM a most.toNat))

-- FN impl_LikeSum
/-- impl.LikeSum: slots 52, results [.t 4, .t 5]; calls [15:g_impl_SelfLikes, 49:g_impl_ifFinite]; names [(a, 0), (most, 1), (a, 2), (most, 3), (r, 6), (ok, 7), (n, 8), (sum, 9), (lag, 10), (x, 11)] -/
def ps_impl_LikeSum : List Nat := [0, 1, 4, 5, 6, 7, 8, 9, 10, 11, 19, 24, 25, 26, 27]
def lv_impl_LikeSum_L0 : List Nat := [8, 9, 24, 25, 26]
def b_impl_LikeSum_L0 (g_impl_SelfLikes g_impl_ifFinite : FuncId) : VCode :=
  (.seq
   (.region false [
    ⟨some 27, (.bin .lss), [.t 26, .t 25], none⟩])
   (.seq
    (.cond (.t 27)
     .skip
     (.exit 0))
    (.seq
     (.block 1
      (.seq
       (.region false [
        ⟨some 28, .mv, [.t 26], none⟩,
        ⟨some 29, .iaddr, [.t 24, .t 26], none⟩,
        ⟨some 30, .load, [.t 29], none⟩,
        ⟨some 10, .mv, [.t 28], none⟩,
        ⟨some 11, .mv, [.t 30], none⟩])
       (.region false [
        ⟨some 31, .mv, [.t 9], none⟩,
        ⟨some 32, .mv, [.t 11], none⟩,
        ⟨some 33, .mv, [.t 11], none⟩,
        ⟨some 34, (.bin .mul), [.t 32, .t 33], none⟩,
        ⟨some 35, .mv, [.t 8], none⟩,
        ⟨some 36, .mv, [.t 10], none⟩,
        ⟨some 37, (.bin .add), [.t 36, .k (.i .i64 1)], none⟩,
        ⟨some 38, (.convF .f32), [.t 37], none⟩,
        ⟨some 39, (.bin .sub), [.t 35, .t 38], none⟩,
        ⟨some 40, (.bin .quo), [.t 34, .t 39], none⟩,
        ⟨some 41, (.bin .add), [.t 31, .t 40], none⟩,
        ⟨some 9, .mv, [.t 41], none⟩])))
     (.region false [
      ⟨some 42, (.bin .add), [.t 26, .k (.i .i64 1)], none⟩,
      ⟨some 26, .mv, [.t 42], none⟩]))))

def b_impl_LikeSum (g_impl_SelfLikes g_impl_ifFinite : FuncId) : VCode :=
  (.seq
   (.region false [
    ⟨some 4, .mv, [.k (.f .f32 0)], none⟩,
    ⟨some 5, .mv, [.k (.b false)], none⟩])
   (.seq
    (.region false [
     ⟨some 13, .mv, [.t 0], none⟩,
     ⟨some 14, .mv, [.t 1], none⟩,
     ⟨some 15, (.call g_impl_SelfLikes), [.t 13, .t 14], none⟩,
     ⟨some 12, .mv, [.t 15], none⟩,
     ⟨some 16, (.extract 0), [.t 12], none⟩,
     ⟨some 17, (.extract 1), [.t 12], none⟩,
     ⟨some 6, .mv, [.t 16], none⟩,
     ⟨some 7, .mv, [.t 17], none⟩])
    (.seq
     (.seq
      (.region false [
       ⟨some 18, .mv, [.t 7], none⟩,
       ⟨some 19, .not, [.t 18], none⟩])
      (.cond (.t 19)
       (.seq
        (.region false [
         ⟨some 4, .mv, [.k (.f .f32 0)], none⟩,
         ⟨some 5, .mv, [.k (.b false)], none⟩])
        .ret)
       .skip))
     (.seq
      (.region false [
       ⟨some 20, .mv, [.t 0], none⟩,
       ⟨some 21, .len, [.t 20], none⟩,
       ⟨some 22, (.convF .f32), [.t 21], none⟩,
       ⟨some 8, .mv, [.t 22], none⟩])
      (.seq
       (.region false [
        ⟨some 9, .mv, [.k (.f .f32 0)], none⟩])
       (.seq
        (.seq
         (.region false [
          ⟨some 23, .mv, [.t 6], none⟩,
          ⟨some 24, (.slice true false false), [.t 23, .k (.i .i64 1)], none⟩,
          ⟨some 25, .len, [.t 24], none⟩,
          ⟨some 26, .mv, [.k (.i .i64 0)], none⟩])
         (.block 0 (.loop (b_impl_LikeSum_L0 g_impl_SelfLikes g_impl_ifFinite))))
        (.seq
         (.region false [
          ⟨some 43, .mv, [.t 8], none⟩,
          ⟨some 44, .mv, [.t 8], none⟩,
          ⟨some 45, (.bin .add), [.t 44, .k (.f .f32 1073741824)], none⟩,
          ⟨some 46, (.bin .mul), [.t 43, .t 45], none⟩,
          ⟨some 47, .mv, [.t 9], none⟩,
          ⟨some 48, (.bin .mul), [.t 46, .t 47], none⟩,
          ⟨some 49, (.call g_impl_ifFinite), [.t 48], none⟩,
          ⟨some 50, (.extract 0), [.t 49], none⟩,
          ⟨some 51, (.extract 1), [.t 49], none⟩,
          ⟨some 4, .mv, [.t 50], none⟩,
          ⟨some 5, .mv, [.t 51], none⟩])
         .ret)))))))

abbrev Is_impl_LikeSum (P : Program) (g_f : FuncId) (g_impl_SelfLikes g_impl_ifFinite : FuncId) : Prop := FnIs P g_f 52 [.t 4, .t 5] (b_impl_LikeSum g_impl_SelfLikes g_impl_ifFinite)

abbrev C_impl_LikeSum (P : Program) (g_f : FuncId) : Prop := ∀ (a : List Nat) (most : Int) (hx : a.length ≤ maxLen), VCall P g_f [PS [0] .f32 a, .i .i64 most] (.tup [.f .f32 (if lsOk a most = true then lsM a (likesM a most.toNat) else 0), .b (lsOk a most)])
def oc1_impl_LikeSum (as : List AV) : T AV := match as with | [.sl _ _ (.f .f32 a), .i .i64 most] => .leaf (.tup [.f .f32 (if lsOk a most = true then lsM a (likesM a most.toNat) else 0), .b (lsOk a most)]) | _ => .fail
def oc_impl_LikeSum (a : List Nat) (most : Int) (d : Nat) (as : List AV) : T AV := match d with | 15 => oc1_impl_SelfLikes as | 49 => oc1_impl_ifFinite as | _ => .fail
def h_impl_LikeSum_L0 (a : List Nat) (most : Int) (sum : Nat) (v26 : Int) : Env := anys 8 ++ [AV.f FloatKind.f32 (fofi FloatKind.f32 (↑(List.length a) : Int)), .f FloatKind.f32 sum] ++ anys 14 ++ [AV.sl (Tag.own 120) 1 (Cont.f FloatKind.f32 (List.take (List.length (likesOut a most) - 1) (List.drop 1 (likesOut a most)))), AV.i IntKind.i64 (↑(List.length (List.take (List.length (likesOut a most) - 1) (List.drop 1 (likesOut a most)))) : Int), .i IntKind.i64 v26] ++ anys 25

theorem q_impl_LikeSum_L0 {VC : FuncId → List AV → AV → Prop} {g_impl_SelfLikes g_impl_ifFinite : FuncId} (a : List Nat) (most : Int) (sum : Nat) (v26 : Int) {e_ : Ex} {σ_ : Env} (ht : T.ok (fun x_ => x_ = (e_, σ_)) (
      T.ite (decide (v26 < (↑(List.length (List.take (List.length (likesOut a most) - 1) (List.drop 1 (likesOut a most)))) : Int)))
        (T.ob (0 ≤ v26 ∧ v26 < (↑(List.length (List.take (List.length (likesOut a most) - 1) (List.drop 1 (likesOut a most)))) : Int))
          (T.ob True
            (T.ob True
              (T.leaf
                (Ex.normal,
                  h_impl_LikeSum_L0 a most
                    (fadd FloatKind.f32 sum
                      (fdiv FloatKind.f32
                        (fmul FloatKind.f32 (List.getD (List.take (List.length (likesOut a most) - 1) (List.drop 1 (likesOut a most))) (Int.toNat v26) 0)
                          (List.getD (List.take (List.length (likesOut a most) - 1) (List.drop 1 (likesOut a most))) (Int.toNat v26) 0))
                        (fsub FloatKind.f32 (fofi FloatKind.f32 (↑(List.length a) : Int)) (fofi FloatKind.f32 (IntKind.wrap IntKind.i64 (v26 + 1))))))
                    (IntKind.wrap IntKind.i64 (v26 + 1)))))))
        (T.leaf (Ex.exit 0, h_impl_LikeSum_L0 a most sum v26)))) :
    Exec VC ps_impl_LikeSum (b_impl_LikeSum_L0 g_impl_SelfLikes g_impl_ifFinite) (h_impl_LikeSum_L0 a most sum v26) e_ σ_ := evL_of (lv := lv_impl_LikeSum_L0) (rs := [4, 5]) (O := ⟨oc_impl_LikeSum a most, fun _ _ => none⟩) (by kernel_rfl) ht

theorem q_impl_LikeSum {P : Program} {g_f : FuncId} {g_impl_SelfLikes g_impl_ifFinite : FuncId} (h_ : Is_impl_LikeSum P g_f g_impl_SelfLikes g_impl_ifFinite) (a : List Nat) (most : Int) (ht : T.ok (fun x_ => x_ = .tup [.f .f32 (if lsOk a most = true then lsM a (likesM a most.toNat) else 0), .b (lsOk a most)]) (
      T.ob ((VCall P) g_impl_SelfLikes [AV.sl (Tag.par [0]) 0 (Cont.f FloatKind.f32 a), AV.i IntKind.i64 most] (AV.tup [AV.sl (Tag.own 0) 0 (Cont.f FloatKind.f32 (likesOut a most)), AV.b (likesOk a most)]))
        (T.ite (!likesOk a most) (T.leaf (AV.tup [AV.f FloatKind.f32 0, AV.b false]))
          (T.ob True
            (T.ob ((0 : Int) ≤ 1 ∧ 1 ≤ (↑(List.length (likesOut a most)) : Int))
              (T.ob
                (Exec (VCall P) ps_impl_LikeSum (VCode.block 0 (VCode.loop (b_impl_LikeSum_L0 g_impl_SelfLikes g_impl_ifFinite))) (h_impl_LikeSum_L0 a most 0 0) Ex.normal
                  (h_impl_LikeSum_L0 a most (lsSum (List.length a) (likesM a (Int.toNat most))) most))
                (T.ob
                  ((VCall P) g_impl_ifFinite
                    [AV.f FloatKind.f32
                        (fmul FloatKind.f32 (fmul FloatKind.f32 (fofi FloatKind.f32 (↑(List.length a) : Int)) (fadd FloatKind.f32 (fofi FloatKind.f32 (↑(List.length a) : Int)) 1073741824))
                          (lsSum (List.length a) (likesM a (Int.toNat most))))]
                    (AV.tup
                      [AV.f FloatKind.f32
                          (numM
                            (fmul FloatKind.f32 (fmul FloatKind.f32 (fofi FloatKind.f32 (↑(List.length a) : Int)) (fadd FloatKind.f32 (fofi FloatKind.f32 (↑(List.length a) : Int)) 1073741824))
                              (lsSum (List.length a) (likesM a (Int.toNat most))))),
                        AV.b
                          (finM
                            (fmul FloatKind.f32 (fmul FloatKind.f32 (fofi FloatKind.f32 (↑(List.length a) : Int)) (fadd FloatKind.f32 (fofi FloatKind.f32 (↑(List.length a) : Int)) 1073741824))
                              (lsSum (List.length a) (likesM a (Int.toNat most)))))]))
                  (T.leaf
                    (AV.tup
                      [AV.f FloatKind.f32
                          (numM
                            (fmul FloatKind.f32 (fmul FloatKind.f32 (fofi FloatKind.f32 (↑(List.length a) : Int)) (fadd FloatKind.f32 (fofi FloatKind.f32 (↑(List.length a) : Int)) 1073741824))
                              (lsSum (List.length a) (likesM a (Int.toNat most))))),
                        AV.b
                          (finM
                            (fmul FloatKind.f32 (fmul FloatKind.f32 (fofi FloatKind.f32 (↑(List.length a) : Int)) (fadd FloatKind.f32 (fofi FloatKind.f32 (↑(List.length a) : Int)) 1073741824))
                              (lsSum (List.length a) (likesM a (Int.toNat most)))))]))))))))) :
    VCall P g_f [PS [0] .f32 a, .i .i64 most] (.tup [.f .f32 (if lsOk a most = true then lsM a (likesM a most.toNat) else 0), .b (lsOk a most)]) := h_.call_of ps_impl_LikeSum ⟨oc_impl_LikeSum a most, fun id σ => match id with | 0 => some (lv_impl_LikeSum_L0, .leaf (.normal, h_impl_LikeSum_L0 a most (lsSum a.length (likesM a most.toNat)) most)) | _ => none⟩ (by kernel_rfl) ht

-- END impl_LikeSum


/-! ### guesses ahead -/
def adAt (d : Nat) (n : Nat) : Nat × Nat := accN (fun _ a => (fadd .f32 a.1 (fmul .f32 a.2 d), fmul .f32 a.2 d)) n (d, d)
def adM (l s : Nat) (xs : List Nat) (t : Int) (d : Nat) (n : Nat) : List Nat := tab n fun k => fadd .f32 (fadd .f32 l (fmul .f32 (adAt d k).1 s)) (xs.getD ((t.toNat + k) % xs.length) 0)
def adOk (l s : Nat) (xs : List Nat) (t : Int) (a b c d : Nat) (n : Int) : Bool := validStateM l s xs t && (sharesM a b c d && (inM n 1 32 && finAllM (adM l s xs t d n.toNat)))




/-! ### means of series -/
def meanOk (xs : List Nat) : Bool := seriesM xs && finM (meanM xs)



def msFin (xs : LL) : Bool := allN xs.length fun i => meanOk (xs.getD i [])
def msOk (xs : LL) (w : Int) : Bool := decide (1 ≤ xs.length) && (decide (xs.length ≤ 16) && (inM w 1 8 && msFin xs))
def msM (xs : LL) : List Nat := tab xs.length fun i => meanM (xs.getD i [])



theorem off_len (a : List Nat) : (offM a).length = a.length := lessOne_len _ _
theorem likes_len (a : List Nat) (m : Nat) : (likesM a m).length = m + 1 := tab_len _ _
theorem del_zero (x : List Nat) : dotM x x = delM x 0 := rfl
theorem dot_shift (x : List Nat) (lag : Nat) : dotM (x.take (x.length - lag)) (x.drop lag) = delM x lag := by
  unfold dotM delM
  rw [List.length_take, Nat.min_eq_left (Nat.sub_le _ _)]
  refine accN_congr fun i s hi => ?_
  rw [getD_take _ _ _ _ hi, getD_drop', Nat.add_comm lag i]
theorem k_impl_isMost {P : Program} {f g1 g2 : FuncId} (h : Is_impl_isMost P f g1 g2) (c1 : C_impl_IsSeries P g1) (c2 : C_impl_within P g2) : C_impl_isMost P f := by
  intro a most hx
  refine q_impl_isMost h a most ⟨c1 _ hx, fun _ => ⟨fun h0 => ⟨c2 _ _ _, fun _ => ?_⟩, fun h0 => ?_⟩⟩
  · have hl := series_len h0
    rw [wrap64_id (by omega) (by omega)]
    show AV.b _ = AV.b _
    congr 1
    rw [h0, Bool.true_and, Bool.eq_iff_iff]
    by_cases h1 : (a.length : Int) - 1 < 16
    · simp [h1, inM]; omega
    · simp [h1, inM]; omega
  · simp [T.ok, h0]
theorem k_impl_selfLikes {P : Program} {f g1 g2 g3 g4 : FuncId} (h : Is_impl_selfLikes P f g1 g2 g3 g4) (c1 : C_impl_mean P g1) (c2 : C_impl_lessOne P g2) (c3 : C_impl_dot P g3) (c4 : C_impl_ifAll P g4) : C_impl_selfLikes P f := by
  intro a most hm hx
  obtain ⟨m, rfl⟩ : ∃ m : Nat, most = m := ⟨most.toNat, by omega⟩
  have ol := off_len a
  refine q_impl_selfLikes h a _ ?_
  rw [Int.toNat_natCast, show lessOneM a (meanM a) = offM a from rfl, del_zero]
  refine ⟨c1 _ (by rw [maxLen_eq]; omega), fun _ => ⟨c2 _ _ (by omega), fun _ => ⟨c3 _ _ (Nat.le_refl _) (by rw [ol, maxLen_eq]; omega), fun _ => ⟨fun h0 => ?_, fun h0 => ⟨?_, fun _ => ⟨c4 _ (by rw [likes_len, maxLen_eq]; omega), fun _ => ?_⟩⟩⟩⟩⟩⟩
  · simp at h0; simp [T.ok, h0]
  · refine for_up (e := .exit 0) (m + 1) (fun i => h_impl_selfLikes_L0 a m (offM a) (tab i fun lag => fdiv .f32 (delM (offM a) lag) (delM (offM a) 0)) i) rfl (fun i hi => ?_) ?_
    · refine q_impl_selfLikes_L0 _ _ _ _ _ ?_
      rw [ol, wrap64_id (n := (a.length : Int) - i) (by omega) (by omega), show (a.length : Int) - i = (a.length - i : Nat) by omega]
      simp only [Int.toNat_natCast, List.drop_zero]
      have e1 : List.take (a.length - i) (List.drop i (offM a)) = (offM a).drop i := by rw [← ol]; exact drop_all _ _
      have e2 : dotM (List.take (a.length - i) (offM a)) (List.drop i (offM a)) = delM (offM a) i := by rw [← ol]; exact dot_shift _ _
      have a3 := c3 (List.take (a.length - i) (offM a)) (List.drop i (offM a)) (by simp; omega) (by simp [maxLen_eq]; omega)
      rw [e1]
      rw [e2] at a3 ⊢
      rw [show dotM (lessOneM a (meanM a)) (lessOneM a (meanM a)) = delM (offM a) 0 from rfl]
      repeat' (first | with_reducible refine T.ok_ob ?_ (fun _ => ?_) | with_reducible refine T.ok_ite (fun _ => ?_) (fun _ => ?_) | with_reducible refine T.ok_leaf ?_)
      all_goals (try simp only [decide_eq_true_eq, decide_eq_false_iff_not, Bool.not_eq_true', Bool.not_eq_false', Bool.not_eq_eq_eq_not, Bool.not_true, Bool.not_false, Int.toNat_natCast, tab_len, List.length_append, List.length_singleton, List.length_cons, List.length_nil, List.length_drop, List.length_take, getD_drop', getD_nat, reduceCtorEq] at *)
      all_goals (try simp (disch := omega) only [wrap64_id] at *)
      all_goals first | omega | (exfalso; omega) | trivial | contradiction | (exfalso; simp_all; done) | skip
      all_goals first | exact a3 | (rw [tab_succ]; rfl)
    · refine q_impl_selfLikes_L0 _ _ _ _ _ ?_
      repeat' (first | with_reducible refine T.ok_ob ?_ (fun _ => ?_) | with_reducible refine T.ok_ite (fun _ => ?_) (fun _ => ?_) | with_reducible refine T.ok_leaf ?_)
      all_goals (try simp only [decide_eq_true_eq, decide_eq_false_iff_not, Bool.not_eq_true', Bool.not_eq_false', Bool.not_eq_eq_eq_not, Bool.not_true, Bool.not_false, Int.toNat_natCast, tab_len, List.length_append, List.length_singleton, List.length_cons, List.length_nil, List.length_drop, List.length_take, getD_drop', getD_nat, reduceCtorEq] at *)
      all_goals (try simp (disch := omega) only [wrap64_id] at *)
      all_goals first | omega | (exfalso; omega) | trivial | contradiction | (exfalso; simp_all; done) | skip
      all_goals rfl
  · simp only [Bool.not_eq_false'] at h0
    simp [T.ok, h0, ifAllM]
theorem k_impl_SelfLikes {P : Program} {f g1 g2 : FuncId} (h : Is_impl_SelfLikes P f g1 g2) (c1 : C_impl_isMost P g1) (c2 : C_impl_selfLikes P g2) : C_impl_SelfLikes P f := by
  intro a most hx
  refine q_impl_SelfLikes h a most ⟨c1 _ _ hx, fun _ => ⟨fun h0 => ?_, fun h0 => ?_⟩⟩
  · have : likesOk a most = false := by
      unfold likesOk
      revert h0
      cases seriesM a <;> cases inM most 0 16 <;> cases decide (most < (a.length : Int)) <;> simp
    simp [T.ok, likesOut, this]
  · simp at h0
    have hl := series_len h0.1
    have hi : 0 ≤ most ∧ most ≤ 16 := by simpa [inM] using h0.2.1
    refine ⟨c2 _ _ ⟨hi.1, hi.2, h0.2.2⟩ hl.2, fun _ => ?_⟩
    simp [T.ok, likesOut, likesOk, h0]
theorem k_spec_l03Off {P : Program} {f g_spec_l03Mean : FuncId} (h : Is_spec_l03Off P f g_spec_l03Mean) (c1 : C_spec_l03Mean P g_spec_l03Mean) : C_spec_l03Off P f := by
  intro a hx
  refine q_spec_l03Off h a ?_
  refine ⟨c1 _ (by rw [maxLen_eq]; omega), fun _ => ⟨?_, fun _ => rfl⟩⟩
  refine for_up (e := .exit 0) (a.length) (fun i => h_spec_l03Off_L0 a (tab i fun i => fsub .f32 (a.getD i 0) (meanM a)) i) (by first | rfl | simp) (fun i hi => ?_) ?_
  · refine q_spec_l03Off_L0 _ _ _ ?_
    repeat' (first | with_reducible refine T.ok_ob ?_ (fun _ => ?_) | with_reducible refine T.ok_ite (fun _ => ?_) (fun _ => ?_) | with_reducible refine T.ok_leaf ?_)
    all_goals (try simp only [decide_eq_true_eq, decide_eq_false_iff_not, Bool.not_eq_true', Bool.not_eq_false', Bool.not_eq_eq_eq_not, Bool.not_true, Bool.not_false, Int.toNat_natCast, tab_len, List.length_append, List.length_singleton, List.length_cons, List.length_nil, List.length_drop, List.length_take, getD_drop', getD_nat, reduceCtorEq] at *)
    all_goals (try simp (disch := omega) only [wrap64_id] at *)
    all_goals first | omega | (exfalso; omega) | trivial | contradiction | (exfalso; simp_all; done) | skip
    all_goals first | rfl | (rw [tab_succ]; rfl)
  · refine q_spec_l03Off_L0 _ _ _ ?_
    repeat' (first | with_reducible refine T.ok_ob ?_ (fun _ => ?_) | with_reducible refine T.ok_ite (fun _ => ?_) (fun _ => ?_) | with_reducible refine T.ok_leaf ?_)
    all_goals (try simp only [decide_eq_true_eq, decide_eq_false_iff_not, Bool.not_eq_true', Bool.not_eq_false', Bool.not_eq_eq_eq_not, Bool.not_true, Bool.not_false, Int.toNat_natCast, tab_len, List.length_append, List.length_singleton, List.length_cons, List.length_nil, List.length_drop, List.length_take, getD_drop', getD_nat, reduceCtorEq] at *)
    all_goals (try simp (disch := omega) only [wrap64_id] at *)
    all_goals first | omega | (exfalso; omega) | trivial | contradiction | (exfalso; simp_all; done) | skip
    all_goals rfl
  repeat' (first | with_reducible refine T.ok_ob ?_ (fun _ => ?_) | with_reducible refine T.ok_ite (fun _ => ?_) (fun _ => ?_) | with_reducible refine T.ok_leaf ?_)
  all_goals first | with_reducible rfl | with_reducible assumption | ((with_reducible refine c1 _ ?_) <;> (first | assumption | omega | with_reducible rfl | (simp [maxLen_eq]; done) | (simp [maxLen_eq]; omega))) | contradiction | exact fconvOk_32_64 _ | assumption | exact rfl | (simp_all []; done) | (simp_all [T.ok]; omega)

theorem cdel_self (b : List Nat) (g : Nat) : cdelM b b g = delM b g := by
  have gen : ∀ n, accN (fun i s => if 0 ≤ (i : Int) + (g : Int) ∧ (i : Int) + (g : Int) < b.length then fadd .f32 s (fmul .f32 (b.getD i 0) (b.getD ((i : Int) + (g : Int)).toNat 0)) else s) n 0 = accN (fun i s => fadd .f32 s (fmul .f32 (b.getD i 0) (b.getD (i + g) 0))) (min n (b.length - g)) 0 := by
    intro n
    induction n with
    | zero => rfl
    | succ n ih =>
      simp only [accN]
      by_cases h1 : n + g < b.length
      · rw [if_pos (by omega), ih, show min (n + 1) (b.length - g) = min n (b.length - g) + 1 by omega]
        simp only [accN]
        rw [show min n (b.length - g) = n by omega, show ((n : Int) + (g : Int)).toNat = n + g by omega]
      · rw [if_neg (by omega), ih, show min (n + 1) (b.length - g) = min n (b.length - g) by omega]
  unfold cdelM
  rw [gen, show min b.length (b.length - g) = b.length - g by omega]; rfl
theorem k_spec_l03Delayed {P : Program} {f : FuncId} (h : Is_spec_l03Delayed P f) : C_spec_l03Delayed P f := by
  intro a b lag hl hx hy
  refine q_spec_l03Delayed h _ _ _ ?_
  refine ⟨?_, fun _ => rfl⟩
  refine for_up (e := .exit 0) a.length (fun i => h_spec_l03Delayed_L0 a b lag (accN (fun i s => if 0 ≤ (i : Int) + lag ∧ (i : Int) + lag < b.length then fadd .f32 s (fmul .f32 (a.getD i 0) (b.getD ((i : Int) + lag).toNat 0)) else s) i 0) i) rfl (fun i hi => ?_) ?_
  · refine q_spec_l03Delayed_L0 _ _ _ _ _ ?_
    rw [wrap64_id (n := (i : Int) + lag) (by omega) (by omega)]
    simp only [accN]
    generalize accN (fun i s => if 0 ≤ (i : Int) + lag ∧ (i : Int) + lag < b.length then fadd .f32 s (fmul .f32 (a.getD i 0) (b.getD ((i : Int) + lag).toNat 0)) else s) i 0 = S
    by_cases h1 : 0 ≤ (i : Int) + lag ∧ (i : Int) + lag < b.length
    · rw [if_pos h1]
      repeat' (first | with_reducible refine T.ok_ob ?_ (fun _ => ?_) | with_reducible refine T.ok_ite (fun _ => ?_) (fun _ => ?_) | with_reducible refine T.ok_leaf ?_)
      all_goals (try simp only [decide_eq_true_eq, decide_eq_false_iff_not, Bool.not_eq_true', Bool.not_eq_false', Bool.not_eq_eq_eq_not, Bool.not_true, Bool.not_false, Int.toNat_natCast, tab_len, List.length_append, List.length_singleton, List.length_cons, List.length_nil, List.length_drop, List.length_take, getD_drop', getD_nat, reduceCtorEq] at *)
      all_goals (try simp (disch := omega) only [wrap64_id] at *)
      all_goals first | omega | (exfalso; omega) | trivial | contradiction | (exfalso; simp_all; done) | skip
      all_goals rfl
    · rw [if_neg h1]
      repeat' (first | with_reducible refine T.ok_ob ?_ (fun _ => ?_) | with_reducible refine T.ok_ite (fun _ => ?_) (fun _ => ?_) | with_reducible refine T.ok_leaf ?_)
      all_goals (try simp only [decide_eq_true_eq, decide_eq_false_iff_not, Bool.not_eq_true', Bool.not_eq_false', Bool.not_eq_eq_eq_not, Bool.not_true, Bool.not_false, Int.toNat_natCast, tab_len, List.length_append, List.length_singleton, List.length_cons, List.length_nil, List.length_drop, List.length_take, getD_drop', getD_nat, reduceCtorEq] at *)
      all_goals (try simp (disch := omega) only [wrap64_id] at *)
      all_goals first | omega | (exfalso; omega) | trivial | contradiction | (exfalso; simp_all; done) | skip
      all_goals rfl
  · refine q_spec_l03Delayed_L0 _ _ _ _ _ ?_
    repeat' (first | with_reducible refine T.ok_ob ?_ (fun _ => ?_) | with_reducible refine T.ok_ite (fun _ => ?_) (fun _ => ?_) | with_reducible refine T.ok_leaf ?_)
    all_goals (try simp only [decide_eq_true_eq, decide_eq_false_iff_not, Bool.not_eq_true', Bool.not_eq_false', Bool.not_eq_eq_eq_not, Bool.not_true, Bool.not_false, Int.toNat_natCast, tab_len, List.length_append, List.length_singleton, List.length_cons, List.length_nil, List.length_drop, List.length_take, getD_drop', getD_nat, reduceCtorEq] at *)
    all_goals (try simp (disch := omega) only [wrap64_id] at *)
    all_goals first | omega | (exfalso; omega) | trivial | contradiction | (exfalso; simp_all; done) | skip
    all_goals rfl
theorem k_spec_SelfLikes {P : Program} {f g1 g2 g3 g4 g5 : FuncId} (h : Is_spec_SelfLikes P f g1 g2 g3 g4 g5) (c1 : C_spec_l02Series P g1) (c2 : C_spec_l00In P g2) (c3 : C_spec_l03Off P g3) (c4 : C_spec_l03Delayed P g4) (c5 : C_spec_l03Given P g5) : C_spec_SelfLikes P f := by
  intro a most hx
  refine q_spec_SelfLikes h a most ⟨c1 _ hx, fun _ => ⟨fun h0 => ?_, fun h0 => ⟨c2 _ _ _, fun _ => ⟨fun h1 => ?_, fun h1 => ⟨fun h2 => ?_, fun h2 => ?_⟩⟩⟩⟩⟩
  · simp at h0; simp [T.ok, likesOut, likesOk, h0]
  · simp at h1; simp [T.ok, likesOut, likesOk, h1]
  · have h2 := of_decide_eq_true h2
    have : ¬ (most < (a.length : Int)) := by omega
    simp [T.ok, likesOut, likesOk, this]
  · simp only [Bool.not_eq_false'] at h0 h1
    have h2 := of_decide_eq_false h2
    have hl := series_len h0
    have hi : 0 ≤ most ∧ most ≤ 16 := by simpa [inM] using h1
    have hd : most < (a.length : Int) := by omega
    have ol := off_len a
    obtain ⟨m, rfl⟩ : ∃ m : Nat, most = m := ⟨most.toNat, by omega⟩
    have z0 : cdelM (offM a) (offM a) 0 = delM (offM a) 0 := cdel_self (offM a) 0
    have a0 := c4 (offM a) (offM a) 0 (by omega) (by omega) (by omega)
    rw [z0] at a0
    rw [Int.toNat_natCast, z0]
    refine ⟨c3 _ hl.2, fun _ => ⟨a0, fun _ => ⟨fun h3 => ?_, fun h3 => ⟨?_, fun _ => ⟨c5 _ (by rw [likes_len, maxLen_eq]; omega), fun _ => ?_⟩⟩⟩⟩⟩
    · simp at h3; simp [T.ok, likesOut, likesOk, h3]
    · refine for_up (e := .exit 0) (m + 1) (fun i => h_spec_SelfLikes_L0 a m (offM a) (tab i fun lag => fdiv .f32 (delM (offM a) lag) (delM (offM a) 0)) i) rfl (fun i hi => ?_) ?_
      · refine q_spec_SelfLikes_L0 _ _ _ _ _ ?_
        have a4 := c4 (offM a) (offM a) i (by omega) (by omega) (by omega)
        rw [cdel_self] at a4 ⊢
        rw [z0]
        repeat' (first | with_reducible refine T.ok_ob ?_ (fun _ => ?_) | with_reducible refine T.ok_ite (fun _ => ?_) (fun _ => ?_) | with_reducible refine T.ok_leaf ?_)
        all_goals (try simp only [decide_eq_true_eq, decide_eq_false_iff_not, Bool.not_eq_true', Bool.not_eq_false', Bool.not_eq_eq_eq_not, Bool.not_true, Bool.not_false, Int.toNat_natCast, tab_len, List.length_append, List.length_singleton, List.length_cons, List.length_nil, List.length_drop, List.length_take, getD_drop', getD_nat, reduceCtorEq] at *)
        all_goals (try simp (disch := omega) only [wrap64_id] at *)
        all_goals first | omega | (exfalso; omega) | trivial | contradiction | (exfalso; simp_all; done) | skip
        all_goals first | exact a4 | (rw [tab_succ]; rfl)
      · refine q_spec_SelfLikes_L0 _ _ _ _ _ ?_
        repeat' (first | with_reducible refine T.ok_ob ?_ (fun _ => ?_) | with_reducible refine T.ok_ite (fun _ => ?_) (fun _ => ?_) | with_reducible refine T.ok_leaf ?_)
        all_goals (try simp only [decide_eq_true_eq, decide_eq_false_iff_not, Bool.not_eq_true', Bool.not_eq_false', Bool.not_eq_eq_eq_not, Bool.not_true, Bool.not_false, Int.toNat_natCast, tab_len, List.length_append, List.length_singleton, List.length_cons, List.length_nil, List.length_drop, List.length_take, getD_drop', getD_nat, reduceCtorEq] at *)
        all_goals (try simp (disch := omega) only [wrap64_id] at *)
        all_goals first | omega | (exfalso; omega) | trivial | contradiction | (exfalso; simp_all; done) | skip
        all_goals rfl
    · simp only [Bool.not_eq_false'] at h3
      have : likesOk a m = finAllM (likesM a m) := by simp [likesOk, h0, h1, h3]; intro _; omega
      simp [T.ok, likesOut, this, ifAllM]
theorem small_sub : ∀ n : Fin 97, ∀ k : Fin 18, k.val ≤ n.val → fsub .f32 (fofi .f32 (n.val : Int)) (fofi .f32 (k.val : Int)) = fofi .f32 ((n.val - k.val : Nat) : Int) := by decide +kernel
theorem likesOk_in {a : List Nat} {most : Int} (h : likesOk a most = true) : 1 ≤ a.length ∧ a.length ≤ 96 ∧ 0 ≤ most ∧ most ≤ 16 ∧ most < a.length := by
  unfold likesOk at h
  simp only [Bool.and_eq_true, decide_eq_true_eq] at h
  have := series_len h.1
  have : 0 ≤ most ∧ most ≤ 16 := by simpa [inM] using h.2.1
  omega
theorem k_impl_LikeSum {P : Program} {f g1 g2 : FuncId} (h : Is_impl_LikeSum P f g1 g2) (c1 : C_impl_SelfLikes P g1) (c2 : C_impl_ifFinite P g2) : C_impl_LikeSum P f := by
  intro a most hx
  refine q_impl_LikeSum h a most ⟨c1 _ _ hx, fun _ => ⟨fun h0 => ?_, fun h0 => ?_⟩⟩
  · simp at h0; simp [T.ok, lsOk, h0]
  · simp only [Bool.not_eq_false'] at h0
    have hi := likesOk_in h0
    obtain ⟨m, rfl⟩ : ∃ m : Nat, most = m := ⟨most.toNat, by omega⟩
    have eo : likesOut a m = likesM a m := by unfold likesOut; rw [if_pos h0]; rfl
    have ll := likes_len a m
    rw [Int.toNat_natCast, eo]
    have main : Exec (VCall P) ps_impl_LikeSum (.block 0 (.loop (b_impl_LikeSum_L0 g1 g2))) (h_impl_LikeSum_L0 a m 0 0) .normal (h_impl_LikeSum_L0 a m (lsSum a.length (likesM a m)) m) := by
      have e : lsSum a.length (likesM a m) = accN (fun j s => fadd .f32 s (fdiv .f32 (fmul .f32 ((likesM a m).getD (j + 1) 0) ((likesM a m).getD (j + 1) 0)) (fofi .f32 (a.length - (j + 1) : Nat)))) m 0 := by
        unfold lsSum; rw [ll, Nat.add_sub_cancel]
      rw [e]
      refine for_up (e := .exit 0) m (fun j => h_impl_LikeSum_L0 a m (accN (fun j s => fadd .f32 s (fdiv .f32 (fmul .f32 ((likesM a m).getD (j + 1) 0) ((likesM a m).getD (j + 1) 0)) (fofi .f32 (a.length - (j + 1) : Nat)))) j 0) j) rfl (fun j hj => ?_) ?_
      · refine q_impl_LikeSum_L0 _ _ _ _ ?_
        have es := small_sub ⟨a.length, by omega⟩ ⟨j + 1, by omega⟩ (by show j + 1 ≤ a.length; omega)
        simp only at es
        rw [eo, drop_all, wrap64_id (n := (j : Int) + 1) (by omega) (by omega), show (j : Int) + 1 = (j + 1 : Nat) by omega, es]
        repeat' (first | with_reducible refine T.ok_ob ?_ (fun _ => ?_) | with_reducible refine T.ok_ite (fun _ => ?_) (fun _ => ?_) | with_reducible refine T.ok_leaf ?_)
        all_goals (try simp only [decide_eq_true_eq, decide_eq_false_iff_not, Bool.not_eq_true', Bool.not_eq_false', Bool.not_eq_eq_eq_not, Bool.not_true, Bool.not_false, Int.toNat_natCast, tab_len, List.length_append, List.length_singleton, List.length_cons, List.length_nil, List.length_drop, List.length_take, getD_drop', getD_nat, reduceCtorEq] at *)
        all_goals (try simp (disch := omega) only [wrap64_id] at *)
        all_goals first | omega | (exfalso; omega) | trivial | contradiction | (exfalso; simp_all; done) | skip
        rw [Nat.add_comm 1 j]; rfl
      · refine q_impl_LikeSum_L0 _ _ _ _ ?_
        rw [eo, drop_all]
        repeat' (first | with_reducible refine T.ok_ob ?_ (fun _ => ?_) | with_reducible refine T.ok_ite (fun _ => ?_) (fun _ => ?_) | with_reducible refine T.ok_leaf ?_)
        all_goals (try simp only [decide_eq_true_eq, decide_eq_false_iff_not, Bool.not_eq_true', Bool.not_eq_false', Bool.not_eq_eq_eq_not, Bool.not_true, Bool.not_false, Int.toNat_natCast, tab_len, List.length_append, List.length_singleton, List.length_cons, List.length_nil, List.length_drop, List.length_take, getD_drop', getD_nat, reduceCtorEq] at *)
        all_goals (try simp (disch := omega) only [wrap64_id] at *)
        all_goals first | omega | (exfalso; omega) | trivial | contradiction | (exfalso; simp_all; done) | skip
        all_goals rfl
    repeat' (first | with_reducible refine T.ok_ob ?_ (fun _ => ?_) | with_reducible refine T.ok_ite (fun _ => ?_) (fun _ => ?_) | with_reducible refine T.ok_leaf ?_)
    all_goals first | with_reducible rfl | omega | exact main | exact c2 (lsM a (likesM a m)) | exact True.intro | skip
    have : lsOk a m = finM (lsM a (likesM a m)) := by simp [lsOk, h0]
    rw [this]; rfl
theorem ad_len (l s : Nat) (xs : List Nat) (t : Int) (d n : Nat) : (adM l s xs t d n).length = n := tab_len _ _
end Go.Proofs.LV
