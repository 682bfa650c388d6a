/- The law FnBestPeriodOfAll. -/
import Derived.Test.YtaehhnldcnhiiaaLvFnI
import Derived.Test.YtaehhnldcnhiiaaLvLawB
namespace Go.Proofs.LV
open Go
set_option linter.unusedVariables false
set_option linter.unusedSimpArgs false

-- FN laws_same32
/-- laws.same32: slots 29, results [.t 4]; calls []; names [(x, 0), (y, 1), (x, 2), (y, 3)] -/
def ps_laws_same32 : List Nat := [0, 1, 4]
def b_laws_same32 : VCode :=
  (.seq
   (.region false [
    ⟨some 4, .mv, [.k (.b false)], none⟩])
   (.seq
    (.region false [
     ⟨some 5, .mv, [.t 0], none⟩,
     ⟨some 6, .mv, [.t 1], none⟩,
     ⟨some 7, (.bin .eql), [.t 5, .t 6], none⟩,
     ⟨some 8, .mv, [.t 7], none⟩,
     ⟨some 9, .mv, [.t 0], some (8, true)⟩,
     ⟨some 10, (.bin .neq), [.t 9, .k (.f .f32 0)], some (8, true)⟩,
     ⟨some 11, .mv, [.t 10], some (8, true)⟩,
     ⟨some 12, .mv, [.t 0], some (11, false)⟩,
     ⟨some 13, (.bin .quo), [.k (.f .f32 1065353216), .t 12], some (11, false)⟩,
     ⟨some 14, .mv, [.t 1], some (11, false)⟩,
     ⟨some 15, (.bin .quo), [.k (.f .f32 1065353216), .t 14], some (11, false)⟩,
     ⟨some 16, (.bin .eql), [.t 13, .t 15], some (11, false)⟩,
     ⟨some 17, .pick, [.t 11, .k (.b true), .t 16], some (8, true)⟩,
     ⟨some 18, .pick, [.t 8, .t 17, .k (.b false)], none⟩,
     ⟨some 19, .mv, [.t 18], none⟩,
     ⟨some 20, .mv, [.t 0], some (19, false)⟩,
     ⟨some 21, .mv, [.t 0], some (19, false)⟩,
     ⟨some 22, (.bin .neq), [.t 20, .t 21], some (19, false)⟩,
     ⟨some 23, .mv, [.t 22], some (19, false)⟩,
     ⟨some 24, .mv, [.t 1], some (23, true)⟩,
     ⟨some 25, .mv, [.t 1], some (23, true)⟩,
     ⟨some 26, (.bin .neq), [.t 24, .t 25], some (23, true)⟩,
     ⟨some 27, .pick, [.t 23, .t 26, .k (.b false)], some (19, false)⟩,
     ⟨some 28, .pick, [.t 19, .k (.b true), .t 27], none⟩,
     ⟨some 4, .mv, [.t 28], none⟩])
    .ret))

abbrev Is_laws_same32 (P : Program) (g_f : FuncId) : Prop := FnIs P g_f 29 [.t 4] (b_laws_same32)

abbrev C_laws_same32 (P : Program) (g_f : FuncId) : Prop := ∀ (x : Nat) (y : Nat) (he : y = x), VCall P g_f [.f .f32 x, .f .f32 y] (.b true)
def oc1_laws_same32 (as : List AV) : T AV := match as with | [.f .f32 x, .f .f32 y] => .leaf (.b true) | _ => .fail



theorem q_laws_same32 {P : Program} {g_f : FuncId} (h_ : Is_laws_same32 P g_f) (x : Nat) (y : Nat) (ht : T.ok (fun x_ => x_ = .b true) (
      T.ite (feq FloatKind.f32 x y)
        (T.ite (fne FloatKind.f32 x 0) (T.leaf (AV.b true))
          (T.ob True
            (T.ob True
              (T.ite (feq FloatKind.f32 (fdiv FloatKind.f32 1065353216 x) (fdiv FloatKind.f32 1065353216 y)) (T.leaf (AV.b true))
                (T.ite (fne FloatKind.f32 x x) (T.leaf (AV.b (fne FloatKind.f32 y y))) (T.leaf (AV.b false)))))))
        (T.ite (fne FloatKind.f32 x x) (T.leaf (AV.b (fne FloatKind.f32 y y))) (T.leaf (AV.b false))))) :
    VCall P g_f [.f .f32 x, .f .f32 y] (.b true) := h_.call_of ps_laws_same32 ⟨fun _ _ => .fail, fun _ _ => none⟩ (by kernel_rfl) ht

-- END laws_same32

-- FN laws_FnBestPeriodOfAll
/-- laws.FnBestPeriodOfAll: slots 98, results [.t 10]; calls [28:g_impl_BestPeriod, 37:g_impl_BestPeriod, 46:g_spec_BestPeriod, 62:g_laws_same32, 94:g_laws_same32]; names [(a, 0), (low, 1), (high, 2), (workers, 3), (hands, 4), (a, 5), (low, 6), (high, 7), (workers, 8), (hands, 9), (x0, 11), (x1, 12), (one, 13), (y0, 14), (y1, 15), (two, 16), (z0, 17), (z1, 18), (known, 19)] -/
def ps_laws_FnBestPeriodOfAll : List Nat := [0, 1, 2, 3, 4, 10, 11, 12, 13, 14, 15, 16, 17, 18, 19, 22, 66, 80]
def b_laws_FnBestPeriodOfAll (g_impl_BestPeriod g_spec_BestPeriod g_laws_same32 : FuncId) : VCode :=
  (.seq
   (.region false [
    ⟨some 10, .mv, [.k (.b false)], none⟩])
   (.seq
    (.seq
     (.region false [
      ⟨some 20, .mv, [.t 0], none⟩,
      ⟨some 21, .len, [.t 20], none⟩,
      ⟨some 22, (.bin .gtr), [.t 21, .k (.i .i64 10000)], none⟩])
     (.cond (.t 22)
      (.seq
       (.region false [
        ⟨some 10, .mv, [.k (.b true)], none⟩])
       .ret)
      .skip))
    (.seq
     (.region false [
      ⟨some 24, .mv, [.t 0], none⟩,
      ⟨some 25, .mv, [.t 1], none⟩,
      ⟨some 26, .mv, [.t 2], none⟩,
      ⟨some 27, .mv, [.t 3], none⟩,
      ⟨some 28, (.call g_impl_BestPeriod), [.t 24, .t 25, .t 26, .t 27], none⟩,
      ⟨some 23, .mv, [.t 28], none⟩,
      ⟨some 29, (.extract 0), [.t 23], none⟩,
      ⟨some 30, (.extract 1), [.t 23], none⟩,
      ⟨some 31, (.extract 2), [.t 23], none⟩,
      ⟨some 11, .mv, [.t 29], none⟩,
      ⟨some 12, .mv, [.t 30], none⟩,
      ⟨some 13, .mv, [.t 31], none⟩])
     (.seq
      (.region false [
       ⟨some 33, .mv, [.t 0], none⟩,
       ⟨some 34, .mv, [.t 1], none⟩,
       ⟨some 35, .mv, [.t 2], none⟩,
       ⟨some 36, .mv, [.t 4], none⟩,
       ⟨some 37, (.call g_impl_BestPeriod), [.t 33, .t 34, .t 35, .t 36], none⟩,
       ⟨some 32, .mv, [.t 37], none⟩,
       ⟨some 38, (.extract 0), [.t 32], none⟩,
       ⟨some 39, (.extract 1), [.t 32], none⟩,
       ⟨some 40, (.extract 2), [.t 32], none⟩,
       ⟨some 14, .mv, [.t 38], none⟩,
       ⟨some 15, .mv, [.t 39], none⟩,
       ⟨some 16, .mv, [.t 40], none⟩])
      (.seq
       (.region false [
        ⟨some 42, .mv, [.t 0], none⟩,
        ⟨some 43, .mv, [.t 1], none⟩,
        ⟨some 44, .mv, [.t 2], none⟩,
        ⟨some 45, .mv, [.t 3], none⟩,
        ⟨some 46, (.call g_spec_BestPeriod), [.t 42, .t 43, .t 44, .t 45], none⟩,
        ⟨some 41, .mv, [.t 46], none⟩,
        ⟨some 47, (.extract 0), [.t 41], none⟩,
        ⟨some 48, (.extract 1), [.t 41], none⟩,
        ⟨some 49, (.extract 2), [.t 41], none⟩,
        ⟨some 17, .mv, [.t 47], none⟩,
        ⟨some 18, .mv, [.t 48], none⟩,
        ⟨some 19, .mv, [.t 49], none⟩])
       (.seq
        (.seq
         (.region false [
          ⟨some 50, .mv, [.t 13], none⟩,
          ⟨some 51, .mv, [.t 19], none⟩,
          ⟨some 52, (.binb .neq), [.t 50, .t 51], none⟩,
          ⟨some 53, .mv, [.t 52], none⟩,
          ⟨some 54, .mv, [.t 13], some (53, false)⟩,
          ⟨some 55, .mv, [.t 54], some (53, false)⟩,
          ⟨some 56, .mv, [.t 11], some (55, true)⟩,
          ⟨some 57, .mv, [.t 17], some (55, true)⟩,
          ⟨some 58, (.bin .eql), [.t 56, .t 57], some (55, true)⟩,
          ⟨some 59, .mv, [.t 58], some (55, true)⟩,
          ⟨some 60, .mv, [.t 12], some (59, true)⟩,
          ⟨some 61, .mv, [.t 18], some (59, true)⟩,
          ⟨some 62, (.call g_laws_same32), [.t 60, .t 61], some (59, true)⟩,
          ⟨some 63, .pick, [.t 59, .t 62, .k (.b false)], some (55, true)⟩,
          ⟨some 64, .not, [.t 63], some (55, true)⟩,
          ⟨some 65, .pick, [.t 55, .t 64, .k (.b false)], some (53, false)⟩,
          ⟨some 66, .pick, [.t 53, .k (.b true), .t 65], none⟩])
         (.cond (.t 66)
          (.seq
           (.region false [
            ⟨some 10, .mv, [.k (.b false)], none⟩])
           .ret)
          .skip))
        (.seq
         (.seq
          (.region false [
           ⟨some 67, .mv, [.t 3], none⟩,
           ⟨some 68, (.bin .lss), [.t 67, .k (.i .i64 1)], none⟩,
           ⟨some 69, .mv, [.t 68], none⟩,
           ⟨some 70, .mv, [.t 3], some (69, false)⟩,
           ⟨some 71, (.bin .gtr), [.t 70, .k (.i .i64 8)], some (69, false)⟩,
           ⟨some 72, .pick, [.t 69, .k (.b true), .t 71], none⟩,
           ⟨some 73, .mv, [.t 72], none⟩,
           ⟨some 74, .mv, [.t 4], some (73, false)⟩,
           ⟨some 75, (.bin .lss), [.t 74, .k (.i .i64 1)], some (73, false)⟩,
           ⟨some 76, .pick, [.t 73, .k (.b true), .t 75], none⟩,
           ⟨some 77, .mv, [.t 76], none⟩,
           ⟨some 78, .mv, [.t 4], some (77, false)⟩,
           ⟨some 79, (.bin .gtr), [.t 78, .k (.i .i64 8)], some (77, false)⟩,
           ⟨some 80, .pick, [.t 77, .k (.b true), .t 79], none⟩])
          (.cond (.t 80)
           (.seq
            (.region false [
             ⟨some 10, .mv, [.k (.b true)], none⟩])
            .ret)
           .skip))
         (.seq
          (.region false [
           ⟨some 81, .mv, [.t 13], none⟩,
           ⟨some 82, .mv, [.t 16], none⟩,
           ⟨some 83, (.binb .eql), [.t 81, .t 82], none⟩,
           ⟨some 84, .mv, [.t 83], none⟩,
           ⟨some 85, .mv, [.t 13], some (84, true)⟩,
           ⟨some 86, .not, [.t 85], some (84, true)⟩,
           ⟨some 87, .mv, [.t 86], some (84, true)⟩,
           ⟨some 88, .mv, [.t 11], some (87, false)⟩,
           ⟨some 89, .mv, [.t 14], some (87, false)⟩,
           ⟨some 90, (.bin .eql), [.t 88, .t 89], some (87, false)⟩,
           ⟨some 91, .mv, [.t 90], some (87, false)⟩,
           ⟨some 92, .mv, [.t 12], some (91, true)⟩,
           ⟨some 93, .mv, [.t 15], some (91, true)⟩,
           ⟨some 94, (.call g_laws_same32), [.t 92, .t 93], some (91, true)⟩,
           ⟨some 95, .pick, [.t 91, .t 94, .k (.b false)], some (87, false)⟩,
           ⟨some 96, .pick, [.t 87, .k (.b true), .t 95], some (84, true)⟩,
           ⟨some 97, .pick, [.t 84, .t 96, .k (.b false)], none⟩,
           ⟨some 10, .mv, [.t 97], none⟩])
          .ret))))))))

abbrev Is_laws_FnBestPeriodOfAll (P : Program) (g_f : FuncId) (g_impl_BestPeriod g_spec_BestPeriod g_laws_same32 : FuncId) : Prop := FnIs P g_f 98 [.t 10] (b_laws_FnBestPeriodOfAll g_impl_BestPeriod g_spec_BestPeriod g_laws_same32)

abbrev C_laws_FnBestPeriodOfAll (P : Program) (g_f : FuncId) : Prop := ∀ (a : List Nat) (low : Int) (top : Int) (w : Int) (v : Int) (hx : a.length ≤ maxLen), VCall P g_f [PS [0] .f32 a, .i .i64 low, .i .i64 top, .i .i64 w, .i .i64 v] (.b true)
def oc1_laws_FnBestPeriodOfAll (as : List AV) : T AV := match as with | [.sl _ _ (.f .f32 a), .i .i64 low, .i .i64 top, .i .i64 w, .i .i64 v] => .leaf (.b true) | _ => .fail
def oc_laws_FnBestPeriodOfAll (a : List Nat) (low : Int) (top : Int) (w : Int) (v : Int) (d : Nat) (as : List AV) : T AV := match d with | 28 => oc1_impl_BestPeriod as | 37 => oc1_impl_BestPeriod as | 46 => oc1_spec_BestPeriod as | 62 => oc1_laws_same32 as | 94 => oc1_laws_same32 as | _ => .fail



theorem q_laws_FnBestPeriodOfAll {P : Program} {g_f : FuncId} {g_impl_BestPeriod g_spec_BestPeriod g_laws_same32 : FuncId} (h_ : Is_laws_FnBestPeriodOfAll P g_f g_impl_BestPeriod g_spec_BestPeriod g_laws_same32) (a : List Nat) (low : Int) (top : Int) (w : Int) (v : Int) (ht : T.ok (fun x_ => x_ = .b true) (
      T.ite (decide ((↑(List.length a) : Int) > 10000)) (T.leaf (AV.b true))
        (T.ob
          ((VCall P) g_impl_BestPeriod [AV.sl (Tag.par [0]) 0 (Cont.f FloatKind.f32 a), AV.i IntKind.i64 low, AV.i IntKind.i64 top, AV.i IntKind.i64 w]
            (AV.tup
              [AV.i IntKind.i64 (if bpOk a low top w = true then Prod.fst (bpAt a low (bpN low top)) else 0), AV.f FloatKind.f32 (if bpOk a low top w = true then Prod.snd (bpAt a low (bpN low top)) else 0),
                AV.b (bpOk a low top w)]))
          (T.ob
            ((VCall P) g_impl_BestPeriod [AV.sl (Tag.par [0]) 0 (Cont.f FloatKind.f32 a), AV.i IntKind.i64 low, AV.i IntKind.i64 top, AV.i IntKind.i64 v]
              (AV.tup
                [AV.i IntKind.i64 (if bpOk a low top v = true then Prod.fst (bpAt a low (bpN low top)) else 0), AV.f FloatKind.f32 (if bpOk a low top v = true then Prod.snd (bpAt a low (bpN low top)) else 0),
                  AV.b (bpOk a low top v)]))
            (T.ob
              ((VCall P) g_spec_BestPeriod [AV.sl (Tag.par [0]) 0 (Cont.f FloatKind.f32 a), AV.i IntKind.i64 low, AV.i IntKind.i64 top, AV.i IntKind.i64 w]
                (AV.tup
                  [AV.i IntKind.i64 (if bpOk a low top w = true then Prod.fst (bpAt a low (bpN low top)) else 0), AV.f FloatKind.f32 (if bpOk a low top w = true then Prod.snd (bpAt a low (bpN low top)) else 0),
                    AV.b (bpOk a low top w)]))
              (T.ite (!bpOk a low top w == bpOk a low top w) (T.leaf (AV.b false))
                (T.ite (bpOk a low top w)
                  (T.ite ((if bpOk a low top w = true then Prod.fst (bpAt a low (bpN low top)) else 0) == if bpOk a low top w = true then Prod.fst (bpAt a low (bpN low top)) else 0)
                    (T.ob
                      ((VCall P) g_laws_same32
                        [AV.f FloatKind.f32 (if bpOk a low top w = true then Prod.snd (bpAt a low (bpN low top)) else 0), AV.f FloatKind.f32 (if bpOk a low top w = true then Prod.snd (bpAt a low (bpN low top)) else 0)]
                        (AV.b true))
                      (T.ite false (T.leaf (AV.b false))
                        (T.ite (decide (w < 1)) (T.leaf (AV.b true))
                          (T.ite (decide (w > 8)) (T.leaf (AV.b true))
                            (T.ite (decide (v < 1)) (T.leaf (AV.b true))
                              (T.ite (decide (v > 8)) (T.leaf (AV.b true))
                                (T.ite (bpOk a low top w == bpOk a low top v)
                                  (T.ite (!bpOk a low top w) (T.leaf (AV.b true))
                                    (T.ite ((if bpOk a low top w = true then Prod.fst (bpAt a low (bpN low top)) else 0) == if bpOk a low top v = true then Prod.fst (bpAt a low (bpN low top)) else 0)
                                      (T.ob
                                        ((VCall P) g_laws_same32
                                          [AV.f FloatKind.f32 (if bpOk a low top w = true then Prod.snd (bpAt a low (bpN low top)) else 0),
                                            AV.f FloatKind.f32 (if bpOk a low top v = true then Prod.snd (bpAt a low (bpN low top)) else 0)]
                                          (AV.b true))
                                        (T.leaf (AV.b true)))
                                      (T.leaf (AV.b false))))
                                  (T.leaf (AV.b false)))))))))
                    (T.leaf (AV.b false)))
                  (T.ite (decide (w < 1)) (T.leaf (AV.b true))
                    (T.ite (decide (w > 8)) (T.leaf (AV.b true))
                      (T.ite (decide (v < 1)) (T.leaf (AV.b true))
                        (T.ite (decide (v > 8)) (T.leaf (AV.b true))
                          (T.ite (bpOk a low top w == bpOk a low top v)
                            (T.ite (!bpOk a low top w) (T.leaf (AV.b true))
                              (T.ite ((if bpOk a low top w = true then Prod.fst (bpAt a low (bpN low top)) else 0) == if bpOk a low top v = true then Prod.fst (bpAt a low (bpN low top)) else 0)
                                (T.ob
                                  ((VCall P) g_laws_same32
                                    [AV.f FloatKind.f32 (if bpOk a low top w = true then Prod.snd (bpAt a low (bpN low top)) else 0),
                                      AV.f FloatKind.f32 (if bpOk a low top v = true then Prod.snd (bpAt a low (bpN low top)) else 0)]
                                    (AV.b true))
                                  (T.leaf (AV.b true)))
                                (T.leaf (AV.b false))))
                            (T.leaf (AV.b false)))))))))))))) :
    VCall P g_f [PS [0] .f32 a, .i .i64 low, .i .i64 top, .i .i64 w, .i .i64 v] (.b true) := h_.call_of ps_laws_FnBestPeriodOfAll ⟨oc_laws_FnBestPeriodOfAll a low top w v, fun _ _ => none⟩ (by kernel_rfl) ht

-- END laws_FnBestPeriodOfAll

theorem one_over_zero {x : Nat} (h : feq .f32 x 0 = true) : feq .f32 (fdiv .f32 1065353216 x) (fdiv .f32 1065353216 x) = true := by
  rw [feq_eq] at h
  simp only [Bool.and_eq_true, decide_eq_true_eq, Bool.not_eq_true'] at h
  obtain ⟨h1, h2, h3⟩ := h
  have h0 : srung .f32 0 = 0 := by decide
  rw [h0] at h3
  have hr : rung FloatKind.f32.format x = 0 := by
    unfold srung sg at h3
    split at h3 <;> omega
  obtain ⟨m, p, hx, hm⟩ := read_num (f := FloatKind.f32.format) (x := x) (by rw [hr]; decide)
  rw [hr, units_zero (by decide)] at hm
  have hm0 : m = 0 := by
    rcases Nat.mul_eq_zero.1 hm with h | h
    · exact h
    · exact absurd h (Nat.pos_iff_ne_zero.1 (Nat.two_pow_pos p))
  subst hm0
  have e : fdiv .f32 1065353216 x = FloatKind.f32.format.write (.infinity (sign FloatKind.f32.format x)) := by
    have e1 : FloatKind.f32.format.read 1065353216 = .number false 8388608 (-23) := by decide
    unfold fdiv Ieee.Format.div
    rw [hx, e1]
    simp [Ieee.Datum.quotient]
  rw [e]
  generalize sign FloatKind.f32.format x = s
  cases s <;> decide
theorem k_laws_same32 {P : Program} {f : FuncId} (h : Is_laws_same32 P f) : C_laws_same32 P f := by
  intro x y he
  subst he
  refine q_laws_same32 h y y ?_
  have hn : fne .f32 y y = !feq .f32 y y := fne_eq _ _ _
  have hz : fne .f32 y 0 = !feq .f32 y 0 := fne_eq _ _ _
  rw [hn, hz]
  cases h1 : feq .f32 y y <;> cases h2 : feq .f32 y 0
  · repeat' (first | with_reducible refine T.ok_ob ?_ (fun _ => ?_) | with_reducible refine T.ok_ite (fun _ => ?_) (fun _ => ?_) | with_reducible refine T.ok_leaf ?_)
    all_goals (try simp only [decide_eq_true_eq, decide_eq_false_iff_not, Bool.not_eq_true', Bool.not_eq_false', Bool.not_eq_eq_eq_not, Bool.not_true, Bool.not_false, Int.toNat_natCast, tab_len, List.length_append, List.length_singleton, List.length_cons, List.length_nil, List.length_drop, List.length_take, getD_drop', getD_nat, reduceCtorEq] at *)
    all_goals (try simp (disch := omega) only [wrap64_id] at *)
    all_goals first | omega | (exfalso; omega) | exact True.intro | skip
    all_goals first | rfl | simp_all
  · repeat' (first | with_reducible refine T.ok_ob ?_ (fun _ => ?_) | with_reducible refine T.ok_ite (fun _ => ?_) (fun _ => ?_) | with_reducible refine T.ok_leaf ?_)
    all_goals (try simp only [decide_eq_true_eq, decide_eq_false_iff_not, Bool.not_eq_true', Bool.not_eq_false', Bool.not_eq_eq_eq_not, Bool.not_true, Bool.not_false, Int.toNat_natCast, tab_len, List.length_append, List.length_singleton, List.length_cons, List.length_nil, List.length_drop, List.length_take, getD_drop', getD_nat, reduceCtorEq] at *)
    all_goals (try simp (disch := omega) only [wrap64_id] at *)
    all_goals first | omega | (exfalso; omega) | exact True.intro | skip
    all_goals first | rfl | simp_all
  · repeat' (first | with_reducible refine T.ok_ob ?_ (fun _ => ?_) | with_reducible refine T.ok_ite (fun _ => ?_) (fun _ => ?_) | with_reducible refine T.ok_leaf ?_)
    all_goals (try simp only [decide_eq_true_eq, decide_eq_false_iff_not, Bool.not_eq_true', Bool.not_eq_false', Bool.not_eq_eq_eq_not, Bool.not_true, Bool.not_false, Int.toNat_natCast, tab_len, List.length_append, List.length_singleton, List.length_cons, List.length_nil, List.length_drop, List.length_take, getD_drop', getD_nat, reduceCtorEq] at *)
    all_goals (try simp (disch := omega) only [wrap64_id] at *)
    all_goals first | omega | (exfalso; omega) | exact True.intro | skip
    all_goals first | rfl | simp_all
  · have h3 := one_over_zero h2
    rw [h3]
    repeat' (first | with_reducible refine T.ok_ob ?_ (fun _ => ?_) | with_reducible refine T.ok_ite (fun _ => ?_) (fun _ => ?_) | with_reducible refine T.ok_leaf ?_)
    all_goals (try simp only [decide_eq_true_eq, decide_eq_false_iff_not, Bool.not_eq_true', Bool.not_eq_false', Bool.not_eq_eq_eq_not, Bool.not_true, Bool.not_false, Int.toNat_natCast, tab_len, List.length_append, List.length_singleton, List.length_cons, List.length_nil, List.length_drop, List.length_take, getD_drop', getD_nat, reduceCtorEq] at *)
    all_goals (try simp (disch := omega) only [wrap64_id] at *)
    all_goals first | omega | (exfalso; omega) | exact True.intro | skip
    all_goals first | rfl | simp_all
theorem k_laws_FnBestPeriodOfAll {P : Program} {f g1 g2 g3 : FuncId} (h : Is_laws_FnBestPeriodOfAll P f g1 g2 g3) (c1 : C_impl_BestPeriod P g1) (c2 : C_spec_BestPeriod P g2) (c3 : C_laws_same32 P g3) : C_laws_FnBestPeriodOfAll P f := by
  intro a low top w v hx
  have a1 := c1 a low top w hx
  have a2 := c1 a low top v hx
  have a3 := c2 a low top w hx
  have hwv : 1 ≤ w → w ≤ 8 → 1 ≤ v → v ≤ 8 → bpOk a low top w = bpOk a low top v := by
    intro h1 h2 h3 h4
    have e1 : inM w 1 8 = true := by simp [inM]; omega
    have e2 : inM v 1 8 = true := by simp [inM]; omega
    unfold bpOk; rw [e1, e2]
  refine q_laws_FnBestPeriodOfAll h a low top w v ?_
  generalize bpAt a low (bpN low top) = B at *
  have d1 := c3 B.2 B.2 rfl
  cases hw : bpOk a low top w <;> cases hv : bpOk a low top v <;> rw [hw, hv] at hwv <;> rw [hw] at a1 a3 <;> rw [hv] at a2 <;> simp only [Bool.false_eq_true, if_true, if_false] at a1 a2 a3 ⊢
  all_goals (
    repeat' (first | with_reducible refine T.ok_ob ?_ (fun _ => ?_) | with_reducible refine T.ok_ite (fun _ => ?_) (fun _ => ?_) | with_reducible refine T.ok_leaf ?_)
    all_goals (try simp only [decide_eq_true_eq, decide_eq_false_iff_not, Bool.not_eq_true', Bool.not_eq_false', Bool.not_eq_eq_eq_not, Bool.not_true, Bool.not_false, Int.toNat_natCast, tab_len, List.length_append, List.length_singleton, List.length_cons, List.length_nil, List.length_drop, List.length_take, getD_drop', getD_nat, reduceCtorEq] at *)
    all_goals (try simp (disch := omega) only [wrap64_id] at *)
    all_goals first | omega | (exfalso; omega) | exact True.intro | skip
    all_goals first | exact a1 | exact a2 | exact a3 | exact d1 | rfl | (exfalso; have := hwv (by omega) (by omega) (by omega) (by omega); simp at this; done) | (simp_all; done) | (exfalso; simp_all; done))

end Go.Proofs.LV
