/- Quantiles. -/
import Derived.Test.YtaehhnldcnhiiaaLvFnV
import Derived.Test.YtaehhnldcnhiiaaLvFloor
namespace Go.Proofs.LV
open Go
set_option linter.unusedVariables false
set_option linter.unusedSimpArgs false

abbrev C_math_archFloor (P : Program) (f : FuncId) : Prop := ∀ x : Nat, nanB .f64 x = false → VCall P f [.f .f64 x] (.f .f64 (ffloor x))
theorem k_math_archFloor {P : Program} {f : FuncId} (h : ExtIs P f (Extern.MathFloor.toIntegral "math.archFloor" .down)) : C_math_archFloor P f := fun x hx => floor_ok h x hx
def oc1_math_archFloor (as : List AV) : T AV := match as with | [.f _ x] => .leaf (.f .f64 (ffloor x)) | _ => .fail

def qP (n : Nat) (share : Nat) : Nat := fmul .f32 share (fofi .f32 ((n : Int) - 1))
def qK (n share : Nat) : Nat := ((ftoi .f32 .i64 (qP n share)).getD 0).toNat
def qV (xs : List Nat) (share : Nat) : Nat :=
  if qK xs.length share + 1 < xs.length then fadd .f32 ((sortM KS xs).getD (qK xs.length share) 0) (fmul .f32 (fsub .f32 (qP xs.length share) (fofi .f32 (qK xs.length share : Int))) (fsub .f32 ((sortM KS xs).getD (qK xs.length share + 1) 0) ((sortM KS xs).getD (qK xs.length share) 0)))
  else (sortM KS xs).getD (xs.length - 1) 0
def qOk (xs : List Nat) (share : Nat) : Bool := (seriesM xs && isShareM share) && finM (qV xs share)

-- FN math_Floor
/-- math.Floor: slots 7, results [.t 2]; calls [4:g_math_archFloor, 6:g_math_floor]; names [(x, 0), (x, 1)] -/
def ps_math_Floor : List Nat := [0, 2]
def b_math_Floor (g_math_archFloor g_math_floor : FuncId) : VCode :=
  (.seq
   (.region false [
    ⟨some 2, .mv, [.k (.f .f64 0)], none⟩])
   (.seq
    (.cond (.k (.b true))
     (.seq
      (.region false [
       ⟨some 3, .mv, [.t 0], none⟩,
       ⟨some 4, (.call g_math_archFloor), [.t 3], none⟩,
       ⟨some 2, .mv, [.t 4], none⟩])
      .ret)
     .skip)
    (.seq
     (.region false [
      ⟨some 5, .mv, [.t 0], none⟩,
      ⟨some 6, (.call g_math_floor), [.t 5], none⟩,
      ⟨some 2, .mv, [.t 6], none⟩])
     .ret)))

abbrev Is_math_Floor (P : Program) (g_f : FuncId) (g_math_archFloor g_math_floor : FuncId) : Prop := FnIs P g_f 7 [.t 2] (b_math_Floor g_math_archFloor g_math_floor)

abbrev C_math_Floor (P : Program) (g_f : FuncId) : Prop := ∀ (x : Nat) (hx : nanB .f64 x = false), VCall P g_f [.f .f64 x] (.f .f64 (ffloor x))
def oc1_math_Floor (as : List AV) : T AV := match as with | [.f .f64 x] => .leaf (.f .f64 (ffloor x)) | _ => .fail
def oc_math_Floor (x : Nat) (d : Nat) (as : List AV) : T AV := match d with | 4 => oc1_math_archFloor as | _ => .fail



theorem q_math_Floor {P : Program} {g_f : FuncId} {g_math_archFloor g_math_floor : FuncId} (h_ : Is_math_Floor P g_f g_math_archFloor g_math_floor) (x : Nat) (ht : T.ok (fun x_ => x_ = .f .f64 (ffloor x)) (
      T.ob ((VCall P) g_math_archFloor [AV.f FloatKind.f64 x] (AV.f FloatKind.f64 (ffloor x))) (T.leaf (AV.f FloatKind.f64 (ffloor x))))) :
    VCall P g_f [.f .f64 x] (.f .f64 (ffloor x)) := h_.call_of ps_math_Floor ⟨oc_math_Floor x, fun _ _ => none⟩ (by kernel_rfl) ht

-- END math_Floor
-- FN impl_floorOf
/-- impl.floorOf: slots 7, results [.t 2]; calls [5:g_math_Floor]; names [(x, 0), (x, 1)] -/
def ps_impl_floorOf : List Nat := [0, 2]
def b_impl_floorOf (g_math_Floor : FuncId) : VCode :=
  (.seq
   (.region false [
    ⟨some 2, .mv, [.k (.i .i64 0)], none⟩])
   (.seq
    (.region false [
     ⟨some 3, .mv, [.t 0], none⟩,
     ⟨some 4, (.convF .f64), [.t 3], none⟩,
     ⟨some 5, (.call g_math_Floor), [.t 4], none⟩,
     ⟨some 6, (.convI .i64), [.t 5], none⟩,
     ⟨some 2, .mv, [.t 6], none⟩])
    .ret))

abbrev Is_impl_floorOf (P : Program) (g_f : FuncId) (g_math_Floor : FuncId) : Prop := FnIs P g_f 7 [.t 2] (b_impl_floorOf g_math_Floor)

abbrev C_impl_floorOf (P : Program) (g_f : FuncId) : Prop := ∀ (x : Nat) (k : Nat) (hn : nanB .f64 (fconv .f32 .f64 x) = false) (hk : ftoi .f64 .i64 (ffloor (fconv .f32 .f64 x)) = some (k : Int)), VCall P g_f [.f .f32 x] (.i .i64 k)
def oc1_impl_floorOf (as : List AV) : T AV := match as with | [.f .f32 x] => .leaf (.i .i64 ((ftoi .f64 .i64 (ffloor (fconv .f32 .f64 x))).getD 0)) | _ => .fail
def oc_impl_floorOf (x : Nat) (k : Nat) (d : Nat) (as : List AV) : T AV := match d with | 5 => oc1_math_Floor as | _ => .fail



theorem q_impl_floorOf {P : Program} {g_f : FuncId} {g_math_Floor : FuncId} (h_ : Is_impl_floorOf P g_f g_math_Floor) (x : Nat) (k : Nat) (ht : T.ok (fun x_ => x_ = .i .i64 k) (
      T.ob (fconvOk FloatKind.f32 FloatKind.f64 x = true)
        (T.ob ((VCall P) g_math_Floor [AV.f FloatKind.f64 (fconv FloatKind.f32 FloatKind.f64 x)] (AV.f FloatKind.f64 (ffloor (fconv FloatKind.f32 FloatKind.f64 x))))
          (T.ob (Option.isSome (ftoi FloatKind.f64 IntKind.i64 (ffloor (fconv FloatKind.f32 FloatKind.f64 x))) = true)
            (T.leaf (AV.i IntKind.i64 (Option.getD (ftoi FloatKind.f64 IntKind.i64 (ffloor (fconv FloatKind.f32 FloatKind.f64 x))) 0))))))) :
    VCall P g_f [.f .f32 x] (.i .i64 k) := h_.call_of ps_impl_floorOf ⟨oc_impl_floorOf x k, fun _ _ => none⟩ (by kernel_rfl) ht

-- END impl_floorOf
-- FN impl_QuantileOf
/-- impl.QuantileOf: slots 61, results [.t 4, .t 5]; calls [10:g_impl_IsSeries, 14:g_impl_isShare, 18:g_impl_sorted, 26:g_impl_floorOf, 58:g_impl_ifFinite]; names [(list, 0), (share, 1), (list, 2), (share, 3), (order, 6), (p, 7), (i, 8)] -/
def ps_impl_QuantileOf : List Nat := [0, 1, 4, 5, 6, 7, 8, 16, 31]
def b_impl_QuantileOf (g_impl_IsSeries g_impl_isShare g_impl_sorted g_impl_floorOf g_impl_ifFinite : FuncId) : VCode :=
  (.seq
   (.region false [
    ⟨some 4, .mv, [.k (.f .f32 0)], none⟩,
    ⟨some 5, .mv, [.k (.b false)], none⟩])
   (.seq
    (.seq
     (.region false [
      ⟨some 9, .mv, [.t 0], none⟩,
      ⟨some 10, (.call g_impl_IsSeries), [.t 9], none⟩,
      ⟨some 11, .not, [.t 10], none⟩,
      ⟨some 12, .mv, [.t 11], none⟩,
      ⟨some 13, .mv, [.t 1], some (12, false)⟩,
      ⟨some 14, (.call g_impl_isShare), [.t 13], some (12, false)⟩,
      ⟨some 15, .not, [.t 14], some (12, false)⟩,
      ⟨some 16, .pick, [.t 12, .k (.b true), .t 15], none⟩])
     (.cond (.t 16)
      (.seq
       (.region false [
        ⟨some 4, .mv, [.k (.f .f32 0)], none⟩,
        ⟨some 5, .mv, [.k (.b false)], none⟩])
       .ret)
      .skip))
    (.seq
     (.region false [
      ⟨some 17, .mv, [.t 0], none⟩,
      ⟨some 18, (.call g_impl_sorted), [.t 17], none⟩,
      ⟨some 6, .mv, [.t 18], none⟩])
     (.seq
      (.region false [
       ⟨some 19, .mv, [.t 1], none⟩,
       ⟨some 20, .mv, [.t 6], none⟩,
       ⟨some 21, .len, [.t 20], none⟩,
       ⟨some 22, (.bin .sub), [.t 21, .k (.i .i64 1)], none⟩,
       ⟨some 23, (.convF .f32), [.t 22], none⟩,
       ⟨some 24, (.bin .mul), [.t 19, .t 23], none⟩,
       ⟨some 7, .mv, [.t 24], none⟩])
      (.seq
       (.region false [
        ⟨some 25, .mv, [.t 7], none⟩,
        ⟨some 26, (.call g_impl_floorOf), [.t 25], none⟩,
        ⟨some 8, .mv, [.t 26], none⟩])
       (.seq
        (.seq
         (.region false [
          ⟨some 27, .mv, [.t 8], none⟩,
          ⟨some 28, (.bin .add), [.t 27, .k (.i .i64 1)], none⟩,
          ⟨some 29, .mv, [.t 6], none⟩,
          ⟨some 30, .len, [.t 29], none⟩,
          ⟨some 31, (.bin .geq), [.t 28, .t 30], none⟩])
         (.cond (.t 31)
          (.seq
           (.region false [
            ⟨some 32, .mv, [.t 6], none⟩,
            ⟨some 33, .mv, [.t 6], none⟩,
            ⟨some 34, .len, [.t 33], none⟩,
            ⟨some 35, (.bin .sub), [.t 34, .k (.i .i64 1)], none⟩,
            ⟨some 36, .iaddr, [.t 32, .t 35], none⟩,
            ⟨some 37, .load, [.t 36], none⟩,
            ⟨some 4, .mv, [.t 37], none⟩,
            ⟨some 5, .mv, [.k (.b true)], none⟩])
           .ret)
          .skip))
        (.seq
         (.region true [
          ⟨some 38, .mv, [.t 6], none⟩,
          ⟨some 39, .mv, [.t 8], none⟩,
          ⟨some 40, .iaddr, [.t 38, .t 39], none⟩,
          ⟨some 41, .load, [.t 40], none⟩,
          ⟨some 42, .mv, [.t 7], none⟩,
          ⟨some 43, .mv, [.t 8], none⟩,
          ⟨some 44, (.convF .f32), [.t 43], none⟩,
          ⟨some 45, (.bin .sub), [.t 42, .t 44], none⟩,
          ⟨some 46, .mv, [.t 6], none⟩,
          ⟨some 47, .mv, [.t 8], none⟩,
          ⟨some 48, (.bin .add), [.t 47, .k (.i .i64 1)], none⟩,
          ⟨some 49, .iaddr, [.t 46, .t 48], none⟩,
          ⟨some 50, .load, [.t 49], none⟩,
          ⟨some 51, .mv, [.t 6], none⟩,
          ⟨some 52, .mv, [.t 8], none⟩,
          ⟨some 53, .iaddr, [.t 51, .t 52], none⟩,
          ⟨some 54, .load, [.t 53], none⟩,
          ⟨some 55, (.bin .sub), [.t 50, .t 54], none⟩,
          ⟨some 56, (.bin .mul), [.t 45, .t 55], none⟩,
          ⟨some 57, (.bin .add), [.t 41, .t 56], none⟩,
          ⟨some 58, (.call g_impl_ifFinite), [.t 57], none⟩,
          ⟨some 59, (.extract 0), [.t 58], none⟩,
          ⟨some 60, (.extract 1), [.t 58], none⟩,
          ⟨some 4, .mv, [.t 59], none⟩,
          ⟨some 5, .mv, [.t 60], none⟩])
         .ret)))))))

abbrev Is_impl_QuantileOf (P : Program) (g_f : FuncId) (g_impl_IsSeries g_impl_isShare g_impl_sorted g_impl_floorOf g_impl_ifFinite : FuncId) : Prop := FnIs P g_f 61 [.t 4, .t 5] (b_impl_QuantileOf g_impl_IsSeries g_impl_isShare g_impl_sorted g_impl_floorOf g_impl_ifFinite)

abbrev C_impl_QuantileOf (P : Program) (g_f : FuncId) : Prop := ∀ (xs : List Nat) (share : Nat) (hx : xs.length ≤ maxLen), VCall P g_f [PS [0] .f32 xs, .f .f32 share] (.tup [.f .f32 (if qOk xs share = true then qV xs share else 0), .b (qOk xs share)])
def oc1_impl_QuantileOf (as : List AV) : T AV := match as with | [.sl _ _ (.f .f32 xs), .f .f32 share] => .leaf (.tup [.f .f32 (if qOk xs share = true then qV xs share else 0), .b (qOk xs share)]) | _ => .fail
def oc_impl_QuantileOf (xs : List Nat) (share : Nat) (d : Nat) (as : List AV) : T AV := match d with | 10 => oc1_impl_IsSeries as | 14 => oc1_impl_isShare as | 18 => oc1_impl_sorted as | 26 => oc1_impl_floorOf as | 58 => oc1_impl_ifFinite as | _ => .fail



theorem q_impl_QuantileOf {P : Program} {g_f : FuncId} {g_impl_IsSeries g_impl_isShare g_impl_sorted g_impl_floorOf g_impl_ifFinite : FuncId} (h_ : Is_impl_QuantileOf P g_f g_impl_IsSeries g_impl_isShare g_impl_sorted g_impl_floorOf g_impl_ifFinite) (xs : List Nat) (share : Nat) (ht : T.ok (fun x_ => x_ = .tup [.f .f32 (if qOk xs share = true then qV xs share else 0), .b (qOk xs share)]) (
      T.ob ((VCall P) g_impl_IsSeries [AV.sl (Tag.par [0]) 0 (Cont.f FloatKind.f32 xs)] (AV.b (seriesM xs)))
        (T.ite (!seriesM xs) (T.leaf (AV.tup [AV.f FloatKind.f32 0, AV.b false]))
          (T.ob ((VCall P) g_impl_isShare [AV.f FloatKind.f32 share] (AV.b (isShareM share)))
            (T.ite (!isShareM share) (T.leaf (AV.tup [AV.f FloatKind.f32 0, AV.b false]))
              (T.ob ((VCall P) g_impl_sorted [AV.sl (Tag.par [0]) 0 (Cont.f FloatKind.f32 xs)] (AV.sl (Tag.own 0) 0 (Cont.f FloatKind.f32 (sortM KS xs))))
                (T.ob True
                  (T.ob
                    ((VCall P) g_impl_floorOf [AV.f FloatKind.f32 (fmul FloatKind.f32 share (fofi FloatKind.f32 (IntKind.wrap IntKind.i64 ((↑(List.length (sortM KS xs)) : Int) - 1))))]
                      (AV.i IntKind.i64
                        (Option.getD
                          (ftoi FloatKind.f64 IntKind.i64
                            (ffloor (fconv FloatKind.f32 FloatKind.f64 (fmul FloatKind.f32 share (fofi FloatKind.f32 (IntKind.wrap IntKind.i64 ((↑(Cont.len (Cont.f FloatKind.f32 (sortM KS xs))) : Int) - 1)))))))
                          0)))
                    (T.ite
                      (decide
                        (IntKind.wrap IntKind.i64
                            (Option.getD
                                (ftoi FloatKind.f64 IntKind.i64
                                  (ffloor (fconv FloatKind.f32 FloatKind.f64 (fmul FloatKind.f32 share (fofi FloatKind.f32 (IntKind.wrap IntKind.i64 ((↑(Cont.len (Cont.f FloatKind.f32 (sortM KS xs))) : Int) - 1)))))))
                                0 +
                              1) ≥
                          (↑(List.length (sortM KS xs)) : Int)))
                      (T.ob (0 ≤ IntKind.wrap IntKind.i64 ((↑(List.length (sortM KS xs)) : Int) - 1) ∧ IntKind.wrap IntKind.i64 ((↑(List.length (sortM KS xs)) : Int) - 1) < (↑(List.length (sortM KS xs)) : Int))
                        (T.leaf (AV.tup [AV.f FloatKind.f32 (List.getD (sortM KS xs) (Int.toNat (IntKind.wrap IntKind.i64 ((↑(List.length (sortM KS xs)) : Int) - 1))) 0), AV.b true])))
                      (T.ob
                        (0 ≤
                            Option.getD
                              (ftoi FloatKind.f64 IntKind.i64
                                (ffloor (fconv FloatKind.f32 FloatKind.f64 (fmul FloatKind.f32 share (fofi FloatKind.f32 (IntKind.wrap IntKind.i64 ((↑(Cont.len (Cont.f FloatKind.f32 (sortM KS xs))) : Int) - 1)))))))
                              0 ∧
                          Option.getD
                              (ftoi FloatKind.f64 IntKind.i64
                                (ffloor (fconv FloatKind.f32 FloatKind.f64 (fmul FloatKind.f32 share (fofi FloatKind.f32 (IntKind.wrap IntKind.i64 ((↑(Cont.len (Cont.f FloatKind.f32 (sortM KS xs))) : Int) - 1)))))))
                              0 <
                            (↑(List.length (sortM KS xs)) : Int))
                        (T.ob True
                          (T.ob
                            (0 ≤
                                IntKind.wrap IntKind.i64
                                  (Option.getD
                                      (ftoi FloatKind.f64 IntKind.i64
                                        (ffloor (fconv FloatKind.f32 FloatKind.f64 (fmul FloatKind.f32 share (fofi FloatKind.f32 (IntKind.wrap IntKind.i64 ((↑(Cont.len (Cont.f FloatKind.f32 (sortM KS xs))) : Int) - 1)))))))
                                      0 +
                                    1) ∧
                              IntKind.wrap IntKind.i64
                                  (Option.getD
                                      (ftoi FloatKind.f64 IntKind.i64
                                        (ffloor (fconv FloatKind.f32 FloatKind.f64 (fmul FloatKind.f32 share (fofi FloatKind.f32 (IntKind.wrap IntKind.i64 ((↑(Cont.len (Cont.f FloatKind.f32 (sortM KS xs))) : Int) - 1)))))))
                                      0 +
                                    1) <
                                (↑(List.length (sortM KS xs)) : Int))
                            (T.ob
                              (0 ≤
                                  Option.getD
                                    (ftoi FloatKind.f64 IntKind.i64
                                      (ffloor (fconv FloatKind.f32 FloatKind.f64 (fmul FloatKind.f32 share (fofi FloatKind.f32 (IntKind.wrap IntKind.i64 ((↑(Cont.len (Cont.f FloatKind.f32 (sortM KS xs))) : Int) - 1)))))))
                                    0 ∧
                                Option.getD
                                    (ftoi FloatKind.f64 IntKind.i64
                                      (ffloor (fconv FloatKind.f32 FloatKind.f64 (fmul FloatKind.f32 share (fofi FloatKind.f32 (IntKind.wrap IntKind.i64 ((↑(Cont.len (Cont.f FloatKind.f32 (sortM KS xs))) : Int) - 1)))))))
                                    0 <
                                  (↑(List.length (sortM KS xs)) : Int))
                              (T.ob
                                ((VCall P) g_impl_ifFinite
                                  [AV.f FloatKind.f32
                                      (fadd FloatKind.f32
                                        (List.getD (sortM KS xs)
                                          (Int.toNat
                                            (Option.getD
                                              (ftoi FloatKind.f64 IntKind.i64
                                                (ffloor
                                                  (fconv FloatKind.f32 FloatKind.f64 (fmul FloatKind.f32 share (fofi FloatKind.f32 (IntKind.wrap IntKind.i64 ((↑(Cont.len (Cont.f FloatKind.f32 (sortM KS xs))) : Int) - 1)))))))
                                              0))
                                          0)
                                        (fmul FloatKind.f32
                                          (fsub FloatKind.f32 (fmul FloatKind.f32 share (fofi FloatKind.f32 (IntKind.wrap IntKind.i64 ((↑(List.length (sortM KS xs)) : Int) - 1))))
                                            (fofi FloatKind.f32
                                              (Option.getD
                                                (ftoi FloatKind.f64 IntKind.i64
                                                  (ffloor
                                                    (fconv FloatKind.f32 FloatKind.f64
                                                      (fmul FloatKind.f32 share (fofi FloatKind.f32 (IntKind.wrap IntKind.i64 ((↑(Cont.len (Cont.f FloatKind.f32 (sortM KS xs))) : Int) - 1)))))))
                                                0)))
                                          (fsub FloatKind.f32
                                            (List.getD (sortM KS xs)
                                              (Int.toNat
                                                (IntKind.wrap IntKind.i64
                                                  (Option.getD
                                                      (ftoi FloatKind.f64 IntKind.i64
                                                        (ffloor
                                                          (fconv FloatKind.f32 FloatKind.f64
                                                            (fmul FloatKind.f32 share (fofi FloatKind.f32 (IntKind.wrap IntKind.i64 ((↑(Cont.len (Cont.f FloatKind.f32 (sortM KS xs))) : Int) - 1)))))))
                                                      0 +
                                                    1)))
                                              0)
                                            (List.getD (sortM KS xs)
                                              (Int.toNat
                                                (Option.getD
                                                  (ftoi FloatKind.f64 IntKind.i64
                                                    (ffloor
                                                      (fconv FloatKind.f32 FloatKind.f64
                                                        (fmul FloatKind.f32 share (fofi FloatKind.f32 (IntKind.wrap IntKind.i64 ((↑(Cont.len (Cont.f FloatKind.f32 (sortM KS xs))) : Int) - 1)))))))
                                                  0))
                                              0))))]
                                  (AV.tup
                                    [AV.f FloatKind.f32
                                        (numM
                                          (fadd FloatKind.f32
                                            (List.getD (sortM KS xs)
                                              (Int.toNat
                                                (Option.getD
                                                  (ftoi FloatKind.f64 IntKind.i64
                                                    (ffloor
                                                      (fconv FloatKind.f32 FloatKind.f64
                                                        (fmul FloatKind.f32 share (fofi FloatKind.f32 (IntKind.wrap IntKind.i64 ((↑(Cont.len (Cont.f FloatKind.f32 (sortM KS xs))) : Int) - 1)))))))
                                                  0))
                                              0)
                                            (fmul FloatKind.f32
                                              (fsub FloatKind.f32 (fmul FloatKind.f32 share (fofi FloatKind.f32 (IntKind.wrap IntKind.i64 ((↑(List.length (sortM KS xs)) : Int) - 1))))
                                                (fofi FloatKind.f32
                                                  (Option.getD
                                                    (ftoi FloatKind.f64 IntKind.i64
                                                      (ffloor
                                                        (fconv FloatKind.f32 FloatKind.f64
                                                          (fmul FloatKind.f32 share (fofi FloatKind.f32 (IntKind.wrap IntKind.i64 ((↑(Cont.len (Cont.f FloatKind.f32 (sortM KS xs))) : Int) - 1)))))))
                                                    0)))
                                              (fsub FloatKind.f32
                                                (List.getD (sortM KS xs)
                                                  (Int.toNat
                                                    (IntKind.wrap IntKind.i64
                                                      (Option.getD
                                                          (ftoi FloatKind.f64 IntKind.i64
                                                            (ffloor
                                                              (fconv FloatKind.f32 FloatKind.f64
                                                                (fmul FloatKind.f32 share (fofi FloatKind.f32 (IntKind.wrap IntKind.i64 ((↑(Cont.len (Cont.f FloatKind.f32 (sortM KS xs))) : Int) - 1)))))))
                                                          0 +
                                                        1)))
                                                  0)
                                                (List.getD (sortM KS xs)
                                                  (Int.toNat
                                                    (Option.getD
                                                      (ftoi FloatKind.f64 IntKind.i64
                                                        (ffloor
                                                          (fconv FloatKind.f32 FloatKind.f64
                                                            (fmul FloatKind.f32 share (fofi FloatKind.f32 (IntKind.wrap IntKind.i64 ((↑(Cont.len (Cont.f FloatKind.f32 (sortM KS xs))) : Int) - 1)))))))
                                                      0))
                                                  0))))),
                                      AV.b
                                        (finM
                                          (fadd FloatKind.f32
                                            (List.getD (sortM KS xs)
                                              (Int.toNat
                                                (Option.getD
                                                  (ftoi FloatKind.f64 IntKind.i64
                                                    (ffloor
                                                      (fconv FloatKind.f32 FloatKind.f64
                                                        (fmul FloatKind.f32 share (fofi FloatKind.f32 (IntKind.wrap IntKind.i64 ((↑(Cont.len (Cont.f FloatKind.f32 (sortM KS xs))) : Int) - 1)))))))
                                                  0))
                                              0)
                                            (fmul FloatKind.f32
                                              (fsub FloatKind.f32 (fmul FloatKind.f32 share (fofi FloatKind.f32 (IntKind.wrap IntKind.i64 ((↑(List.length (sortM KS xs)) : Int) - 1))))
                                                (fofi FloatKind.f32
                                                  (Option.getD
                                                    (ftoi FloatKind.f64 IntKind.i64
                                                      (ffloor
                                                        (fconv FloatKind.f32 FloatKind.f64
                                                          (fmul FloatKind.f32 share (fofi FloatKind.f32 (IntKind.wrap IntKind.i64 ((↑(Cont.len (Cont.f FloatKind.f32 (sortM KS xs))) : Int) - 1)))))))
                                                    0)))
                                              (fsub FloatKind.f32
                                                (List.getD (sortM KS xs)
                                                  (Int.toNat
                                                    (IntKind.wrap IntKind.i64
                                                      (Option.getD
                                                          (ftoi FloatKind.f64 IntKind.i64
                                                            (ffloor
                                                              (fconv FloatKind.f32 FloatKind.f64
                                                                (fmul FloatKind.f32 share (fofi FloatKind.f32 (IntKind.wrap IntKind.i64 ((↑(Cont.len (Cont.f FloatKind.f32 (sortM KS xs))) : Int) - 1)))))))
                                                          0 +
                                                        1)))
                                                  0)
                                                (List.getD (sortM KS xs)
                                                  (Int.toNat
                                                    (Option.getD
                                                      (ftoi FloatKind.f64 IntKind.i64
                                                        (ffloor
                                                          (fconv FloatKind.f32 FloatKind.f64
                                                            (fmul FloatKind.f32 share (fofi FloatKind.f32 (IntKind.wrap IntKind.i64 ((↑(Cont.len (Cont.f FloatKind.f32 (sortM KS xs))) : Int) - 1)))))))
                                                      0))
                                                  0)))))]))
                                (T.leaf
                                  (AV.tup
                                    [AV.f FloatKind.f32
                                        (numM
                                          (fadd FloatKind.f32
                                            (List.getD (sortM KS xs)
                                              (Int.toNat
                                                (Option.getD
                                                  (ftoi FloatKind.f64 IntKind.i64
                                                    (ffloor
                                                      (fconv FloatKind.f32 FloatKind.f64
                                                        (fmul FloatKind.f32 share (fofi FloatKind.f32 (IntKind.wrap IntKind.i64 ((↑(Cont.len (Cont.f FloatKind.f32 (sortM KS xs))) : Int) - 1)))))))
                                                  0))
                                              0)
                                            (fmul FloatKind.f32
                                              (fsub FloatKind.f32 (fmul FloatKind.f32 share (fofi FloatKind.f32 (IntKind.wrap IntKind.i64 ((↑(List.length (sortM KS xs)) : Int) - 1))))
                                                (fofi FloatKind.f32
                                                  (Option.getD
                                                    (ftoi FloatKind.f64 IntKind.i64
                                                      (ffloor
                                                        (fconv FloatKind.f32 FloatKind.f64
                                                          (fmul FloatKind.f32 share (fofi FloatKind.f32 (IntKind.wrap IntKind.i64 ((↑(Cont.len (Cont.f FloatKind.f32 (sortM KS xs))) : Int) - 1)))))))
                                                    0)))
                                              (fsub FloatKind.f32
                                                (List.getD (sortM KS xs)
                                                  (Int.toNat
                                                    (IntKind.wrap IntKind.i64
                                                      (Option.getD
                                                          (ftoi FloatKind.f64 IntKind.i64
                                                            (ffloor
                                                              (fconv FloatKind.f32 FloatKind.f64
                                                                (fmul FloatKind.f32 share (fofi FloatKind.f32 (IntKind.wrap IntKind.i64 ((↑(Cont.len (Cont.f FloatKind.f32 (sortM KS xs))) : Int) - 1)))))))
                                                          0 +
                                                        1)))
                                                  0)
                                                (List.getD (sortM KS xs)
                                                  (Int.toNat
                                                    (Option.getD
                                                      (ftoi FloatKind.f64 IntKind.i64
                                                        (ffloor
                                                          (fconv FloatKind.f32 FloatKind.f64
                                                            (fmul FloatKind.f32 share (fofi FloatKind.f32 (IntKind.wrap IntKind.i64 ((↑(Cont.len (Cont.f FloatKind.f32 (sortM KS xs))) : Int) - 1)))))))
                                                      0))
                                                  0))))),
                                      AV.b
                                        (finM
                                          (fadd FloatKind.f32
                                            (List.getD (sortM KS xs)
                                              (Int.toNat
                                                (Option.getD
                                                  (ftoi FloatKind.f64 IntKind.i64
                                                    (ffloor
                                                      (fconv FloatKind.f32 FloatKind.f64
                                                        (fmul FloatKind.f32 share (fofi FloatKind.f32 (IntKind.wrap IntKind.i64 ((↑(Cont.len (Cont.f FloatKind.f32 (sortM KS xs))) : Int) - 1)))))))
                                                  0))
                                              0)
                                            (fmul FloatKind.f32
                                              (fsub FloatKind.f32 (fmul FloatKind.f32 share (fofi FloatKind.f32 (IntKind.wrap IntKind.i64 ((↑(List.length (sortM KS xs)) : Int) - 1))))
                                                (fofi FloatKind.f32
                                                  (Option.getD
                                                    (ftoi FloatKind.f64 IntKind.i64
                                                      (ffloor
                                                        (fconv FloatKind.f32 FloatKind.f64
                                                          (fmul FloatKind.f32 share (fofi FloatKind.f32 (IntKind.wrap IntKind.i64 ((↑(Cont.len (Cont.f FloatKind.f32 (sortM KS xs))) : Int) - 1)))))))
                                                    0)))
                                              (fsub FloatKind.f32
                                                (List.getD (sortM KS xs)
                                                  (Int.toNat
                                                    (IntKind.wrap IntKind.i64
                                                      (Option.getD
                                                          (ftoi FloatKind.f64 IntKind.i64
                                                            (ffloor
                                                              (fconv FloatKind.f32 FloatKind.f64
                                                                (fmul FloatKind.f32 share (fofi FloatKind.f32 (IntKind.wrap IntKind.i64 ((↑(Cont.len (Cont.f FloatKind.f32 (sortM KS xs))) : Int) - 1)))))))
                                                          0 +
                                                        1)))
                                                  0)
                                                (List.getD (sortM KS xs)
                                                  (Int.toNat
                                                    (Option.getD
                                                      (ftoi FloatKind.f64 IntKind.i64
                                                        (ffloor
                                                          (fconv FloatKind.f32 FloatKind.f64
                                                            (fmul FloatKind.f32 share (fofi FloatKind.f32 (IntKind.wrap IntKind.i64 ((↑(Cont.len (Cont.f FloatKind.f32 (sortM KS xs))) : Int) - 1)))))))
                                                      0))
                                                  0)))))])))))))))))))))) :
    VCall P g_f [PS [0] .f32 xs, .f .f32 share] (.tup [.f .f32 (if qOk xs share = true then qV xs share else 0), .b (qOk xs share)]) := h_.call_of ps_impl_QuantileOf ⟨oc_impl_QuantileOf xs share, fun _ _ => none⟩ (by kernel_rfl) ht

-- END impl_QuantileOf
-- FN spec_l02Quantile
/-- spec.l02Quantile: slots 49, results [.t 4]; calls [9:g_spec_l02Sorted]; names [(list, 0), (share, 1), (list, 2), (share, 3), (s, 5), (p, 6), (k, 7)] -/
def ps_spec_l02Quantile : List Nat := [0, 1, 4, 5, 6, 7, 22]
def b_spec_l02Quantile (g_spec_l02Sorted : FuncId) : VCode :=
  (.seq
   (.region false [
    ⟨some 4, .mv, [.k (.f .f32 0)], none⟩])
   (.seq
    (.region false [
     ⟨some 8, .mv, [.t 0], none⟩,
     ⟨some 9, (.call g_spec_l02Sorted), [.t 8], none⟩,
     ⟨some 5, .mv, [.t 9], none⟩])
    (.seq
     (.region false [
      ⟨some 10, .mv, [.t 1], none⟩,
      ⟨some 11, .mv, [.t 5], none⟩,
      ⟨some 12, .len, [.t 11], none⟩,
      ⟨some 13, (.bin .sub), [.t 12, .k (.i .i64 1)], none⟩,
      ⟨some 14, (.convF .f32), [.t 13], none⟩,
      ⟨some 15, (.bin .mul), [.t 10, .t 14], none⟩,
      ⟨some 6, .mv, [.t 15], none⟩])
     (.seq
      (.region false [
       ⟨some 16, .mv, [.t 6], none⟩,
       ⟨some 17, (.convI .i64), [.t 16], none⟩,
       ⟨some 7, .mv, [.t 17], none⟩])
      (.seq
       (.seq
        (.region false [
         ⟨some 18, .mv, [.t 7], none⟩,
         ⟨some 19, (.bin .add), [.t 18, .k (.i .i64 1)], none⟩,
         ⟨some 20, .mv, [.t 5], none⟩,
         ⟨some 21, .len, [.t 20], none⟩,
         ⟨some 22, (.bin .geq), [.t 19, .t 21], none⟩])
        (.cond (.t 22)
         (.seq
          (.region false [
           ⟨some 23, .mv, [.t 5], none⟩,
           ⟨some 24, .mv, [.t 5], none⟩,
           ⟨some 25, .len, [.t 24], none⟩,
           ⟨some 26, (.bin .sub), [.t 25, .k (.i .i64 1)], none⟩,
           ⟨some 27, .iaddr, [.t 23, .t 26], none⟩,
           ⟨some 28, .load, [.t 27], none⟩,
           ⟨some 4, .mv, [.t 28], none⟩])
          .ret)
         .skip))
       (.seq
        (.region true [
         ⟨some 29, .mv, [.t 5], none⟩,
         ⟨some 30, .mv, [.t 7], none⟩,
         ⟨some 31, .iaddr, [.t 29, .t 30], none⟩,
         ⟨some 32, .load, [.t 31], none⟩,
         ⟨some 33, .mv, [.t 6], none⟩,
         ⟨some 34, .mv, [.t 7], none⟩,
         ⟨some 35, (.convF .f32), [.t 34], none⟩,
         ⟨some 36, (.bin .sub), [.t 33, .t 35], none⟩,
         ⟨some 37, .mv, [.t 5], none⟩,
         ⟨some 38, .mv, [.t 7], none⟩,
         ⟨some 39, (.bin .add), [.t 38, .k (.i .i64 1)], none⟩,
         ⟨some 40, .iaddr, [.t 37, .t 39], none⟩,
         ⟨some 41, .load, [.t 40], none⟩,
         ⟨some 42, .mv, [.t 5], none⟩,
         ⟨some 43, .mv, [.t 7], none⟩,
         ⟨some 44, .iaddr, [.t 42, .t 43], none⟩,
         ⟨some 45, .load, [.t 44], none⟩,
         ⟨some 46, (.bin .sub), [.t 41, .t 45], none⟩,
         ⟨some 47, (.bin .mul), [.t 36, .t 46], none⟩,
         ⟨some 48, (.bin .add), [.t 32, .t 47], none⟩,
         ⟨some 4, .mv, [.t 48], none⟩])
        .ret))))))

abbrev Is_spec_l02Quantile (P : Program) (g_f : FuncId) (g_spec_l02Sorted : FuncId) : Prop := FnIs P g_f 49 [.t 4] (b_spec_l02Quantile g_spec_l02Sorted)

abbrev C_spec_l02Quantile (P : Program) (g_f : FuncId) : Prop := ∀ (xs : List Nat) (share : Nat) (hs : seriesM xs = true) (hh : isShareM share = true), VCall P g_f [PS [0] .f32 xs, .f .f32 share] (.f .f32 (qV xs share))
def oc1_spec_l02Quantile (as : List AV) : T AV := match as with | [.sl _ _ (.f .f32 xs), .f .f32 share] => .leaf (.f .f32 (qV xs share)) | _ => .fail
def oc_spec_l02Quantile (xs : List Nat) (share : Nat) (d : Nat) (as : List AV) : T AV := match d with | 9 => oc1_spec_l02Sorted as | _ => .fail



theorem q_spec_l02Quantile {P : Program} {g_f : FuncId} {g_spec_l02Sorted : FuncId} (h_ : Is_spec_l02Quantile P g_f g_spec_l02Sorted) (xs : List Nat) (share : Nat) (ht : T.ok (fun x_ => x_ = .f .f32 (qV xs share)) (
      T.ob ((VCall P) g_spec_l02Sorted [AV.sl (Tag.par [0]) 0 (Cont.f FloatKind.f32 xs)] (AV.sl (Tag.own 0) 0 (Cont.f FloatKind.f32 (sortM KS xs))))
        (T.ob True
          (T.ob (Option.isSome (ftoi FloatKind.f32 IntKind.i64 (fmul FloatKind.f32 share (fofi FloatKind.f32 (IntKind.wrap IntKind.i64 ((↑(Cont.len (Cont.f FloatKind.f32 (sortM KS xs))) : Int) - 1))))) = true)
            (T.ite
              (decide
                (IntKind.wrap IntKind.i64
                    (Option.getD (ftoi FloatKind.f32 IntKind.i64 (fmul FloatKind.f32 share (fofi FloatKind.f32 (IntKind.wrap IntKind.i64 ((↑(Cont.len (Cont.f FloatKind.f32 (sortM KS xs))) : Int) - 1))))) 0 + 1) ≥
                  (↑(List.length (sortM KS xs)) : Int)))
              (T.ob (0 ≤ IntKind.wrap IntKind.i64 ((↑(List.length (sortM KS xs)) : Int) - 1) ∧ IntKind.wrap IntKind.i64 ((↑(List.length (sortM KS xs)) : Int) - 1) < (↑(List.length (sortM KS xs)) : Int))
                (T.leaf (AV.f FloatKind.f32 (List.getD (sortM KS xs) (Int.toNat (IntKind.wrap IntKind.i64 ((↑(List.length (sortM KS xs)) : Int) - 1))) 0))))
              (T.ob
                (0 ≤ Option.getD (ftoi FloatKind.f32 IntKind.i64 (fmul FloatKind.f32 share (fofi FloatKind.f32 (IntKind.wrap IntKind.i64 ((↑(Cont.len (Cont.f FloatKind.f32 (sortM KS xs))) : Int) - 1))))) 0 ∧
                  Option.getD (ftoi FloatKind.f32 IntKind.i64 (fmul FloatKind.f32 share (fofi FloatKind.f32 (IntKind.wrap IntKind.i64 ((↑(Cont.len (Cont.f FloatKind.f32 (sortM KS xs))) : Int) - 1))))) 0 <
                    (↑(List.length (sortM KS xs)) : Int))
                (T.ob True
                  (T.ob
                    (0 ≤
                        IntKind.wrap IntKind.i64
                          (Option.getD (ftoi FloatKind.f32 IntKind.i64 (fmul FloatKind.f32 share (fofi FloatKind.f32 (IntKind.wrap IntKind.i64 ((↑(Cont.len (Cont.f FloatKind.f32 (sortM KS xs))) : Int) - 1))))) 0 + 1) ∧
                      IntKind.wrap IntKind.i64
                          (Option.getD (ftoi FloatKind.f32 IntKind.i64 (fmul FloatKind.f32 share (fofi FloatKind.f32 (IntKind.wrap IntKind.i64 ((↑(Cont.len (Cont.f FloatKind.f32 (sortM KS xs))) : Int) - 1))))) 0 + 1) <
                        (↑(List.length (sortM KS xs)) : Int))
                    (T.ob
                      (0 ≤ Option.getD (ftoi FloatKind.f32 IntKind.i64 (fmul FloatKind.f32 share (fofi FloatKind.f32 (IntKind.wrap IntKind.i64 ((↑(Cont.len (Cont.f FloatKind.f32 (sortM KS xs))) : Int) - 1))))) 0 ∧
                        Option.getD (ftoi FloatKind.f32 IntKind.i64 (fmul FloatKind.f32 share (fofi FloatKind.f32 (IntKind.wrap IntKind.i64 ((↑(Cont.len (Cont.f FloatKind.f32 (sortM KS xs))) : Int) - 1))))) 0 <
                          (↑(List.length (sortM KS xs)) : Int))
                      (T.leaf
                        (AV.f FloatKind.f32
                          (fadd FloatKind.f32
                            (List.getD (sortM KS xs)
                              (Int.toNat
                                (Option.getD (ftoi FloatKind.f32 IntKind.i64 (fmul FloatKind.f32 share (fofi FloatKind.f32 (IntKind.wrap IntKind.i64 ((↑(Cont.len (Cont.f FloatKind.f32 (sortM KS xs))) : Int) - 1))))) 0))
                              0)
                            (fmul FloatKind.f32
                              (fsub FloatKind.f32 (fmul FloatKind.f32 share (fofi FloatKind.f32 (IntKind.wrap IntKind.i64 ((↑(List.length (sortM KS xs)) : Int) - 1))))
                                (fofi FloatKind.f32
                                  (Option.getD (ftoi FloatKind.f32 IntKind.i64 (fmul FloatKind.f32 share (fofi FloatKind.f32 (IntKind.wrap IntKind.i64 ((↑(Cont.len (Cont.f FloatKind.f32 (sortM KS xs))) : Int) - 1))))) 0)))
                              (fsub FloatKind.f32
                                (List.getD (sortM KS xs)
                                  (Int.toNat
                                    (IntKind.wrap IntKind.i64
                                      (Option.getD (ftoi FloatKind.f32 IntKind.i64 (fmul FloatKind.f32 share (fofi FloatKind.f32 (IntKind.wrap IntKind.i64 ((↑(Cont.len (Cont.f FloatKind.f32 (sortM KS xs))) : Int) - 1))))) 0 +
                                        1)))
                                  0)
                                (List.getD (sortM KS xs)
                                  (Int.toNat
                                    (Option.getD (ftoi FloatKind.f32 IntKind.i64 (fmul FloatKind.f32 share (fofi FloatKind.f32 (IntKind.wrap IntKind.i64 ((↑(Cont.len (Cont.f FloatKind.f32 (sortM KS xs))) : Int) - 1))))) 0))
                                  0))))))))))))))) :
    VCall P g_f [PS [0] .f32 xs, .f .f32 share] (.f .f32 (qV xs share)) := h_.call_of ps_spec_l02Quantile ⟨oc_spec_l02Quantile xs share, fun _ _ => none⟩ (by kernel_rfl) ht

-- END spec_l02Quantile
-- FN spec_QuantileOf
/-- spec.QuantileOf: slots 20, results [.t 4, .t 5]; calls [7:g_spec_l02Series, 11:g_spec_l02Share, 16:g_spec_l02Quantile, 17:g_spec_l02Number]; names [(list, 0), (share, 1), (list, 2), (share, 3)] -/
def ps_spec_QuantileOf : List Nat := [0, 1, 4, 5, 13]
def b_spec_QuantileOf (g_spec_l02Series g_spec_l02Share g_spec_l02Quantile g_spec_l02Number : FuncId) : VCode :=
  (.seq
   (.region false [
    ⟨some 4, .mv, [.k (.f .f32 0)], none⟩,
    ⟨some 5, .mv, [.k (.b false)], none⟩])
   (.seq
    (.seq
     (.region false [
      ⟨some 6, .mv, [.t 0], none⟩,
      ⟨some 7, (.call g_spec_l02Series), [.t 6], none⟩,
      ⟨some 8, .not, [.t 7], none⟩,
      ⟨some 9, .mv, [.t 8], none⟩,
      ⟨some 10, .mv, [.t 1], some (9, false)⟩,
      ⟨some 11, (.call g_spec_l02Share), [.t 10], some (9, false)⟩,
      ⟨some 12, .not, [.t 11], some (9, false)⟩,
      ⟨some 13, .pick, [.t 9, .k (.b true), .t 12], none⟩])
     (.cond (.t 13)
      (.seq
       (.region false [
        ⟨some 4, .mv, [.k (.f .f32 0)], none⟩,
        ⟨some 5, .mv, [.k (.b false)], none⟩])
       .ret)
      .skip))
    (.seq
     (.region false [
      ⟨some 14, .mv, [.t 0], none⟩,
      ⟨some 15, .mv, [.t 1], none⟩,
      ⟨some 16, (.call g_spec_l02Quantile), [.t 14, .t 15], none⟩,
      ⟨some 17, (.call g_spec_l02Number), [.t 16], none⟩,
      ⟨some 18, (.extract 0), [.t 17], none⟩,
      ⟨some 19, (.extract 1), [.t 17], none⟩,
      ⟨some 4, .mv, [.t 18], none⟩,
      ⟨some 5, .mv, [.t 19], none⟩])
     .ret)))

abbrev Is_spec_QuantileOf (P : Program) (g_f : FuncId) (g_spec_l02Series g_spec_l02Share g_spec_l02Quantile g_spec_l02Number : FuncId) : Prop := FnIs P g_f 20 [.t 4, .t 5] (b_spec_QuantileOf g_spec_l02Series g_spec_l02Share g_spec_l02Quantile g_spec_l02Number)

abbrev C_spec_QuantileOf (P : Program) (g_f : FuncId) : Prop := ∀ (xs : List Nat) (share : Nat) (hx : xs.length ≤ maxLen), VCall P g_f [PS [0] .f32 xs, .f .f32 share] (.tup [.f .f32 (if qOk xs share = true then qV xs share else 0), .b (qOk xs share)])
def oc1_spec_QuantileOf (as : List AV) : T AV := match as with | [.sl _ _ (.f .f32 xs), .f .f32 share] => .leaf (.tup [.f .f32 (if qOk xs share = true then qV xs share else 0), .b (qOk xs share)]) | _ => .fail
def oc_spec_QuantileOf (xs : List Nat) (share : Nat) (d : Nat) (as : List AV) : T AV := match d with | 7 => oc1_spec_l02Series as | 11 => oc1_spec_l02Share as | 16 => oc1_spec_l02Quantile as | 17 => oc1_spec_l02Number as | _ => .fail



theorem q_spec_QuantileOf {P : Program} {g_f : FuncId} {g_spec_l02Series g_spec_l02Share g_spec_l02Quantile g_spec_l02Number : FuncId} (h_ : Is_spec_QuantileOf P g_f g_spec_l02Series g_spec_l02Share g_spec_l02Quantile g_spec_l02Number) (xs : List Nat) (share : Nat) (ht : T.ok (fun x_ => x_ = .tup [.f .f32 (if qOk xs share = true then qV xs share else 0), .b (qOk xs share)]) (
      T.ob ((VCall P) g_spec_l02Series [AV.sl (Tag.par [0]) 0 (Cont.f FloatKind.f32 xs)] (AV.b (seriesM xs)))
        (T.ite (!seriesM xs) (T.leaf (AV.tup [AV.f FloatKind.f32 0, AV.b false]))
          (T.ob ((VCall P) g_spec_l02Share [AV.f FloatKind.f32 share] (AV.b (isShareM share)))
            (T.ite (!isShareM share) (T.leaf (AV.tup [AV.f FloatKind.f32 0, AV.b false]))
              (T.ob ((VCall P) g_spec_l02Quantile [AV.sl (Tag.par [0]) 0 (Cont.f FloatKind.f32 xs), AV.f FloatKind.f32 share] (AV.f FloatKind.f32 (qV xs share)))
                (T.ob ((VCall P) g_spec_l02Number [AV.f FloatKind.f32 (qV xs share)] (AV.tup [AV.f FloatKind.f32 (numM (qV xs share)), AV.b (finM (qV xs share))]))
                  (T.leaf (AV.tup [AV.f FloatKind.f32 (numM (qV xs share)), AV.b (finM (qV xs share))]))))))))) :
    VCall P g_f [PS [0] .f32 xs, .f .f32 share] (.tup [.f .f32 (if qOk xs share = true then qV xs share else 0), .b (qOk xs share)]) := h_.call_of ps_spec_QuantileOf ⟨oc_spec_QuantileOf xs share, fun _ _ => none⟩ (by kernel_rfl) ht

-- END spec_QuantileOf

theorem sort_mem : ∀ {l : List Nat} {z : Nat}, z ∈ sortM KS l → z ∈ l
  | [], z, h => h
  | x :: l, z, h => by
    rcases insFirst_mem (K := KS) (show z ∈ sortM.insFirst KS x (sortM KS l) from h) with h | h
    · exact h ▸ List.mem_cons_self
    · exact List.mem_cons_of_mem _ (sort_mem h)
theorem sort_fin {xs : List Nat} (h : seriesM xs = true) {j : Nat} (hj : j < xs.length) : finM ((sortM KS xs).getD j 0) = true := by
  have hj' : j < (sortM KS xs).length := by rw [sort_len]; exact hj
  rw [List.getD_eq_getElem?_getD, List.getElem?_eq_getElem hj', Option.getD_some]
  have hm := sort_mem (List.getElem_mem hj')
  simp only [seriesM, Bool.and_eq_true, finAllM, List.all_eq_true] at h
  exact h.2.2 _ hm
/-- what the place is -/
theorem q_place {xs : List Nat} {share : Nat} (hs : seriesM xs = true) (hh : isShareM share = true) :
    ∃ k : Nat, k < 2 ^ 24 ∧ qK xs.length share = k ∧ ftoi .f32 .i64 (qP xs.length share) = some (k : Int) ∧ ftoi .f64 .i64 (ffloor (fconv .f32 .f64 (qP xs.length share))) = some (k : Int) ∧ nanB .f64 (fconv .f32 .f64 (qP xs.length share)) = false := by
  have hl := series_len hs
  have en : ((xs.length : Int) - 1) = ((xs.length - 1 : Nat) : Int) := by omega
  obtain ⟨s, m, e, hr, hz, he⟩ := part_read (x := share) (n := xs.length - 1) hh (by omega)
  obtain ⟨k, hk, h1, h2, h3⟩ := ftoi_floor hr hz he
  unfold qK qP
  rw [en]
  exact ⟨k, hk, by rw [h1]; rfl, h1, h2, h3⟩

theorem k_math_Floor {P : Program} {f g1 g2 : FuncId} (h : Is_math_Floor P f g1 g2) (c1 : C_math_archFloor P g1) : C_math_Floor P f := by
  intro x hx
  refine q_math_Floor h x ?_
  repeat' (first | with_reducible refine T.ok_ob ?_ (fun _ => ?_) | with_reducible refine T.ok_ite (fun _ => ?_) (fun _ => ?_) | with_reducible refine T.ok_leaf ?_)
  all_goals first | exact c1 x hx | rfl
theorem k_impl_floorOf {P : Program} {f g1 : FuncId} (h : Is_impl_floorOf P f g1) (c1 : C_math_Floor P g1) : C_impl_floorOf P f := by
  intro x k hn hk
  refine q_impl_floorOf h x k ?_
  have c1 := c1 (fconv .f32 .f64 x) hn
  rw [hk]
  repeat' (first | with_reducible refine T.ok_ob ?_ (fun _ => ?_) | with_reducible refine T.ok_ite (fun _ => ?_) (fun _ => ?_) | with_reducible refine T.ok_leaf ?_)
  all_goals first | exact fconvOk_32_64 _ | exact c1 | rfl
theorem k_impl_QuantileOf {P : Program} {f g1 g2 g3 g4 g5 : FuncId} (h : Is_impl_QuantileOf P f g1 g2 g3 g4 g5) (c1 : C_impl_IsSeries P g1) (c2 : C_impl_isShare P g2) (c3 : C_impl_sorted P g3) (c4 : C_impl_floorOf P g4) (c5 : C_impl_ifFinite P g5) : C_impl_QuantileOf P f := by
  intro xs share hx
  refine q_impl_QuantileOf h xs share ?_
  cases hs : seriesM xs
  · repeat' (first | with_reducible refine T.ok_ob ?_ (fun _ => ?_) | with_reducible refine T.ok_ite (fun _ => ?_) (fun _ => ?_) | with_reducible refine T.ok_leaf ?_)
    all_goals first | exact hs ▸ c1 _ hx | contradiction | (simp [qOk, hs]; done)
  cases hh : isShareM share
  · repeat' (first | with_reducible refine T.ok_ob ?_ (fun _ => ?_) | with_reducible refine T.ok_ite (fun _ => ?_) (fun _ => ?_) | with_reducible refine T.ok_leaf ?_)
    all_goals first | exact hs ▸ c1 _ hx | exact hh ▸ c2 _ | contradiction | (simp [qOk, hs, hh]; done)
  have hl := series_len hs
  obtain ⟨k, hk, ek, e1, e2, e3⟩ := q_place hs hh
  have c3 := c3 xs hl.1 (series_ok hs) (by omega)
  have c4 := c4 (qP xs.length share) k e3 e2
  have ew : IntKind.wrap .i64 ((xs.length : Int) - 1) = (xs.length : Int) - 1 := wrap64_id (by omega) (by omega)
  have ek1 : IntKind.wrap .i64 ((k : Int) + 1) = ((k + 1 : Nat) : Int) := by rw [wrap64_id (by omega) (by omega)]; omega
  simp only [Cont.len, sort_len, ew]
  rw [show fmul .f32 share (fofi .f32 ((xs.length : Int) - 1)) = qP xs.length share from rfl, e2]
  simp only [Option.getD_some, ek1]
  have eL : (xs.length : Int).toNat - 1 = xs.length - 1 := by omega
  by_cases hc : k + 1 < xs.length
  · have ev : qV xs share = fadd .f32 ((sortM KS xs).getD k 0) (fmul .f32 (fsub .f32 (qP xs.length share) (fofi .f32 (k : Int))) (fsub .f32 ((sortM KS xs).getD (k + 1) 0) ((sortM KS xs).getD k 0))) := by
      unfold qV; rw [ek, if_pos hc]
    simp only [Int.toNat_natCast, ← ev]
    repeat' (first | with_reducible refine T.ok_ob ?_ (fun _ => ?_) | with_reducible refine T.ok_ite (fun _ => ?_) (fun _ => ?_) | with_reducible refine T.ok_leaf ?_)
    all_goals first | exact hs ▸ c1 _ hx | exact hh ▸ c2 _ | exact c3 | exact c4 | exact c5 _ | contradiction | omega | (exfalso; simp only [decide_eq_true_eq] at *; omega) | (simp [qOk, hs, hh, numM]; done)
  · have ev : qV xs share = (sortM KS xs).getD (xs.length - 1) 0 := by unfold qV; rw [ek, if_neg hc]
    have ef : finM ((sortM KS xs).getD (xs.length - 1) 0) = true := sort_fin hs (by omega)
    have et : ((xs.length : Int) - 1).toNat = xs.length - 1 := by omega
    simp only [et, ← ev]
    repeat' (first | with_reducible refine T.ok_ob ?_ (fun _ => ?_) | with_reducible refine T.ok_ite (fun _ => ?_) (fun _ => ?_) | with_reducible refine T.ok_leaf ?_)
    all_goals first | exact hs ▸ c1 _ hx | exact hh ▸ c2 _ | exact c3 | exact c4 | exact c5 _ | contradiction | omega | (exfalso; simp only [decide_eq_true_eq, decide_eq_false_iff_not] at *; omega) | (simp only [qOk, hs, hh, ev, ef, Bool.and_self, if_true]; done)
theorem k_spec_l02Quantile {P : Program} {f g1 : FuncId} (h : Is_spec_l02Quantile P f g1) (c1 : C_spec_l02Sorted P g1) : C_spec_l02Quantile P f := by
  intro xs share hs hh
  refine q_spec_l02Quantile h xs share ?_
  have hl := series_len hs
  obtain ⟨k, hk, ek, e1, e2, e3⟩ := q_place hs hh
  have c1 := c1 xs (series_ok hs) (by omega)
  have ew : IntKind.wrap .i64 ((xs.length : Int) - 1) = (xs.length : Int) - 1 := wrap64_id (by omega) (by omega)
  have ek1 : IntKind.wrap .i64 ((k : Int) + 1) = ((k + 1 : Nat) : Int) := by rw [wrap64_id (by omega) (by omega)]; omega
  simp only [Cont.len, sort_len, ew]
  rw [show fmul .f32 share (fofi .f32 ((xs.length : Int) - 1)) = qP xs.length share from rfl, e1]
  simp only [Option.getD_some, ek1]
  by_cases hc : k + 1 < xs.length
  · have ev : qV xs share = fadd .f32 ((sortM KS xs).getD k 0) (fmul .f32 (fsub .f32 (qP xs.length share) (fofi .f32 (k : Int))) (fsub .f32 ((sortM KS xs).getD (k + 1) 0) ((sortM KS xs).getD k 0))) := by
      unfold qV; rw [ek, if_pos hc]
    simp only [Int.toNat_natCast, ← ev]
    repeat' (first | with_reducible refine T.ok_ob ?_ (fun _ => ?_) | with_reducible refine T.ok_ite (fun _ => ?_) (fun _ => ?_) | with_reducible refine T.ok_leaf ?_)
    all_goals first | exact c1 | contradiction | rfl | omega | (exact Option.isSome_some) | (simp; done) | (exfalso; simp only [decide_eq_true_eq] at *; omega)
  · have ev : qV xs share = (sortM KS xs).getD (xs.length - 1) 0 := by unfold qV; rw [ek, if_neg hc]
    have et : ((xs.length : Int) - 1).toNat = xs.length - 1 := by omega
    simp only [et, ← ev]
    repeat' (first | with_reducible refine T.ok_ob ?_ (fun _ => ?_) | with_reducible refine T.ok_ite (fun _ => ?_) (fun _ => ?_) | with_reducible refine T.ok_leaf ?_)
    all_goals first | exact c1 | contradiction | rfl | omega | (exact Option.isSome_some) | (simp; done) | (exfalso; simp only [decide_eq_true_eq, decide_eq_false_iff_not] at *; omega)
theorem k_spec_QuantileOf {P : Program} {f g1 g2 g3 g4 : FuncId} (h : Is_spec_QuantileOf P f g1 g2 g3 g4) (c1 : C_spec_l02Series P g1) (c2 : C_spec_l02Share P g2) (c3 : C_spec_l02Quantile P g3) (c4 : C_spec_l02Number P g4) : C_spec_QuantileOf P f := by
  intro xs share hx
  refine q_spec_QuantileOf h xs share ?_
  cases hs : seriesM xs
  · repeat' (first | with_reducible refine T.ok_ob ?_ (fun _ => ?_) | with_reducible refine T.ok_ite (fun _ => ?_) (fun _ => ?_) | with_reducible refine T.ok_leaf ?_)
    all_goals first | exact hs ▸ c1 _ hx | contradiction | (simp [qOk, hs]; done)
  cases hh : isShareM share
  · repeat' (first | with_reducible refine T.ok_ob ?_ (fun _ => ?_) | with_reducible refine T.ok_ite (fun _ => ?_) (fun _ => ?_) | with_reducible refine T.ok_leaf ?_)
    all_goals first | exact hs ▸ c1 _ hx | exact hh ▸ c2 _ | contradiction | (simp [qOk, hs, hh]; done)
  have c3 := c3 xs share hs hh
  repeat' (first | with_reducible refine T.ok_ob ?_ (fun _ => ?_) | with_reducible refine T.ok_ite (fun _ => ?_) (fun _ => ?_) | with_reducible refine T.ok_leaf ?_)
  all_goals first | exact hs ▸ c1 _ hx | exact hh ▸ c2 _ | exact c3 | exact c4 _ | contradiction | (simp [qOk, hs, hh, numM]; done)

end Go.Proofs.LV
