/- A series taken apart. -/
import Derived.Test.YtjfgmnfkkehgfaaLvFnI
import Derived.Test.YtjfgmnfkkehgfaaLvAbs
import Derived.Test.YtjfgmnfkkehgfaaLvFnJX
namespace Go.Proofs.LV
open Go
set_option linter.unusedVariables false
set_option linter.unusedSimpArgs false
set_option maxHeartbeats 2000000

def sprM (ps : List Nat) (n : Nat) : List Nat := tab n fun i => ps.getD (i % ps.length) 0
/-- the trend and the season after some rounds -/
def taS (xs : List Nat) (per side : Nat) : Nat → List Nat × List Nat
  | 0 => ([], List.replicate per 0)
  | n + 1 => (movM meanM (lessM xs (sprM (taS xs per side n).2 xs.length)) side, seasonM (lessM xs (movM meanM (lessM xs (sprM (taS xs per side n).2 xs.length)) side)) per)
def taR (xs : List Nat) (per side n : Nat) : List Nat := lessM (lessM xs (taS xs per side n).1) (sprM (taS xs per side n).2 xs.length)
def taOk (xs : List Nat) (per side n : Int) : Bool := (seriesM xs && inM per 1 xs.length) && (inM side 0 96 && (inM n 1 8 && (finAllM (taS xs per.toNat side.toNat n.toNat).1 && (finAllM (taS xs per.toNat side.toNat n.toNat).2 && finAllM (taR xs per.toNat side.toNat n.toNat)))))

-- FN impl_TakeApart_1
/-- impl.TakeApart$1: slots 23, results [.t 3]; calls []; names [(out, 4), (i, 5)] -/
def ps_impl_TakeApart_1 : List Nat := [0, 1, 2, 3, 4, 5, 8, 9, 10]
def lv_impl_TakeApart_1_L0 : List Nat := [1, 2, 4, 8, 9]
def b_impl_TakeApart_1_L0 : VCode :=
  (.seq
   (.region false [
    ⟨some 10, (.bin .lss), [.t 9, .t 8], none⟩])
   (.seq
    (.cond (.t 10)
     .skip
     (.exit 0))
    (.seq
     (.block 1
      (.seq
       (.region false [
        ⟨some 11, .mv, [.t 9], none⟩,
        ⟨some 5, .mv, [.t 11], none⟩])
       (.region true [
        ⟨some 12, .mv, [.t 4], none⟩,
        ⟨some 13, .load, [.t 1], none⟩,
        ⟨some 14, .mv, [.t 5], none⟩,
        ⟨some 15, .load, [.t 2], none⟩,
        ⟨some 16, (.bin .rem), [.t 14, .t 15], none⟩,
        ⟨some 17, .iaddr, [.t 13, .t 16], none⟩,
        ⟨some 18, .load, [.t 17], none⟩,
        ⟨some 19, (.lit true (.f .f32 [])), [.t 18], none⟩,
        ⟨some 20, .app, [.t 12, .t 19], none⟩,
        ⟨some 4, .mv, [.t 20], none⟩])))
     (.region false [
      ⟨some 21, (.bin .add), [.t 9, .k (.i .i64 1)], none⟩,
      ⟨some 9, .mv, [.t 21], none⟩]))))

def b_impl_TakeApart_1 : VCode :=
  (.seq
   (.region false [
    ⟨some 3, (.nilsl (.f .f32 [])), [], none⟩])
   (.seq
    (.region false [
     ⟨some 6, (.lit true (.f .f32 [])), [], none⟩,
     ⟨some 4, .mv, [.t 6], none⟩])
    (.seq
     (.seq
      (.region false [
       ⟨some 7, .load, [.t 0], none⟩,
       ⟨some 8, .len, [.t 7], none⟩,
       ⟨some 9, .mv, [.k (.i .i64 0)], none⟩])
      (.block 0 (.loop b_impl_TakeApart_1_L0)))
     (.seq
      (.region false [
       ⟨some 22, .mv, [.t 4], none⟩,
       ⟨some 3, .mv, [.t 22], none⟩])
      .ret))))

abbrev Is_impl_TakeApart_1 (P : Program) (g_f : FuncId) : Prop := FnIs P g_f 23 [.t 3] (b_impl_TakeApart_1)

abbrev C_impl_TakeApart_1 (P : Program) (g_f : FuncId) : Prop := ∀ (xs : List Nat) (ps : List Nat) (per : Int) (hp : per = ps.length ∧ 1 ≤ per) (hx : xs.length ≤ 96), VCall P g_f [.bx (.par [0]) [PS [0, 0] .f32 xs], .bx (.par [1]) [PS [1, 0] .f32 ps], .bx (.par [2]) [.i .i64 per]] (OS 0 .f32 (sprM ps xs.length))
def h_impl_TakeApart_1_L0 (xs : List Nat) (ps : List Nat) (per : Int) (out : List Nat) (v9 : Int) : Env := [.any, AV.bx (Tag.par [1]) [AV.sl (Tag.par [1, 0]) 0 (Cont.f FloatKind.f32 ps)], AV.bx (Tag.par [2]) [AV.i IntKind.i64 per], .any, .sl (Tag.own 48) 0 (.f FloatKind.f32 out), .any, .any, .any, AV.i IntKind.i64 (↑(List.length xs) : Int), .i IntKind.i64 v9] ++ anys 13

theorem q_impl_TakeApart_1_L0 {VC : FuncId → List AV → AV → Prop} (xs : List Nat) (ps : List Nat) (per : Int) (out : List Nat) (v9 : Int) {e_ : Ex} {σ_ : Env} (ht : T.ok (fun x_ => x_ = (e_, σ_)) (
      T.ite (decide (v9 < (↑(List.length xs) : Int)))
        (T.ob (per ≠ 0)
          (T.ob (0 ≤ Int.tmod v9 per ∧ Int.tmod v9 per < (↑(List.length ps) : Int))
            (T.ob (List.length out + List.length [List.getD ps (Int.toNat (Int.tmod v9 per)) 0] ≤ 4294967296)
              (T.leaf (Ex.normal, h_impl_TakeApart_1_L0 xs ps per (out ++ [List.getD ps (Int.toNat (Int.tmod v9 per)) 0]) (IntKind.wrap IntKind.i64 (v9 + 1)))))))
        (T.leaf (Ex.exit 0, h_impl_TakeApart_1_L0 xs ps per out v9)))) :
    Exec VC ps_impl_TakeApart_1 (b_impl_TakeApart_1_L0) (h_impl_TakeApart_1_L0 xs ps per out v9) e_ σ_ := evL_of (lv := lv_impl_TakeApart_1_L0) (rs := [3]) (O := ⟨fun _ _ => .fail, fun _ _ => none⟩) (by kernel_rfl) ht

theorem q_impl_TakeApart_1 {P : Program} {g_f : FuncId} (h_ : Is_impl_TakeApart_1 P g_f) (xs : List Nat) (ps : List Nat) (per : Int) (ht : T.ok (fun x_ => x_ = OS 0 .f32 (sprM ps xs.length)) (
      T.ob
        (Exec (VCall P) ps_impl_TakeApart_1 (VCode.block 0 (VCode.loop b_impl_TakeApart_1_L0)) (h_impl_TakeApart_1_L0 xs ps per [] 0) Ex.normal (h_impl_TakeApart_1_L0 xs ps per (sprM ps (List.length xs)) (↑(List.length xs) : Int)))
        (T.leaf (AV.sl (Tag.own 0) 0 (Cont.f FloatKind.f32 (sprM ps (List.length xs))))))) :
    VCall P g_f [.bx (.par [0]) [PS [0, 0] .f32 xs], .bx (.par [1]) [PS [1, 0] .f32 ps], .bx (.par [2]) [.i .i64 per]] (OS 0 .f32 (sprM ps xs.length)) := h_.call_of ps_impl_TakeApart_1 ⟨fun _ _ => .fail, fun id σ => match id with | 0 => some (lv_impl_TakeApart_1_L0, .leaf (.normal, h_impl_TakeApart_1_L0 xs ps per (sprM ps xs.length) xs.length)) | _ => none⟩ (by kernel_rfl) ht

-- END impl_TakeApart_1
-- FN impl_TakeApart
/-- impl.TakeApart: slots 71, results [.t 8, .t 9, .t 10, .t 11]; calls [18:g_impl_isPeriodOf, 22:g_impl_isSide, 27:g_impl_within, 38:VALUE, 39:g_impl_less, 41:g_impl_moving, 44:g_impl_less, 46:g_impl_season, 50:g_impl_less, 52:VALUE, 53:g_impl_less, 55:g_impl_areFinite, 59:g_impl_areFinite, 64:g_impl_areFinite, 69:VALUE]; names [(list, 0), (period, 1), (side, 2), (rounds, 3), (list, 4), (period, 5), (side, 6), (rounds, 7), (parts, 12), (all, 13), (trend, 14), (rest, 15)] -/
def ps_impl_TakeApart : List Nat := [0, 1, 2, 3, 4, 5, 8, 9, 10, 11, 12, 13, 14, 15, 29, 33, 34, 35, 66]
def lv_impl_TakeApart_L0 : List Nat := [2, 4, 5, 12, 13, 14, 33, 34]
def b_impl_TakeApart_L0 (g_impl_isPeriodOf g_impl_isSide g_impl_within g_impl_TakeApart_1 g_impl_less g_impl_moving g_impl_mean g_impl_season g_impl_areFinite : FuncId) : VCode :=
  (.seq
   (.region false [
    ⟨some 35, (.bin .lss), [.t 34, .t 33], none⟩])
   (.seq
    (.cond (.t 35)
     .skip
     (.exit 0))
    (.seq
     (.block 1
      (.seq
       (.region true [
        ⟨some 36, .load, [.t 4], none⟩,
        ⟨some 37, .mv, [.t 13], none⟩,
        ⟨some 38, .callv, [.t 37], none⟩,
        ⟨some 39, (.call g_impl_less), [.t 36, .t 38], none⟩,
        ⟨some 40, .mv, [.t 2], none⟩,
        ⟨some 41, (.call g_impl_moving), [.t 39, .t 40, .k (.fn g_impl_mean [])], none⟩,
        ⟨some 14, .mv, [.t 41], none⟩])
       (.region true [
        ⟨some 42, .load, [.t 4], none⟩,
        ⟨some 43, .mv, [.t 14], none⟩,
        ⟨some 44, (.call g_impl_less), [.t 42, .t 43], none⟩,
        ⟨some 45, .load, [.t 5], none⟩,
        ⟨some 46, (.call g_impl_season), [.t 44, .t 45], none⟩,
        ⟨none, .store, [.t 12, .t 46], none⟩])))
     (.region false [
      ⟨some 47, (.bin .add), [.t 34, .k (.i .i64 1)], none⟩,
      ⟨some 34, .mv, [.t 47], none⟩]))))

def b_impl_TakeApart (g_impl_isPeriodOf g_impl_isSide g_impl_within g_impl_TakeApart_1 g_impl_less g_impl_moving g_impl_mean g_impl_season g_impl_areFinite : FuncId) : VCode :=
  (.seq
   (.region false [
    ⟨some 4, .box, [.t 0], none⟩,
    ⟨some 5, .box, [.t 1], none⟩,
    ⟨some 8, (.nilsl (.f .f32 [])), [], none⟩,
    ⟨some 9, (.nilsl (.f .f32 [])), [], none⟩,
    ⟨some 10, (.nilsl (.f .f32 [])), [], none⟩,
    ⟨some 11, .mv, [.k (.b false)], none⟩])
   (.seq
    (.seq
     (.region false [
      ⟨some 16, .load, [.t 4], none⟩,
      ⟨some 17, .load, [.t 5], none⟩,
      ⟨some 18, (.call g_impl_isPeriodOf), [.t 16, .t 17], none⟩,
      ⟨some 19, .not, [.t 18], none⟩,
      ⟨some 20, .mv, [.t 19], none⟩,
      ⟨some 21, .mv, [.t 2], some (20, false)⟩,
      ⟨some 22, (.call g_impl_isSide), [.t 21], some (20, false)⟩,
      ⟨some 23, .not, [.t 22], some (20, false)⟩,
      ⟨some 24, .pick, [.t 20, .k (.b true), .t 23], none⟩,
      ⟨some 25, .mv, [.t 24], none⟩,
      ⟨some 26, .mv, [.t 3], some (25, false)⟩,
      ⟨some 27, (.call g_impl_within), [.t 26, .k (.i .i64 1), .k (.i .i64 8)], some (25, false)⟩,
      ⟨some 28, .not, [.t 27], some (25, false)⟩,
      ⟨some 29, .pick, [.t 25, .k (.b true), .t 28], none⟩])
     (.cond (.t 29)
      (.seq
       (.region false [
        ⟨some 8, (.nilsl (.f .f32 [])), [], none⟩,
        ⟨some 9, (.nilsl (.f .f32 [])), [], none⟩,
        ⟨some 10, (.nilsl (.f .f32 [])), [], none⟩,
        ⟨some 11, .mv, [.k (.b false)], none⟩])
       .ret)
      .skip))
    (.seq
     (.region false [
      ⟨some 30, .load, [.t 5], none⟩,
      ⟨some 31, (.mksl (.f .f32 0)), [.t 30, .t 30], none⟩,
      ⟨some 12, (.alloc [(.sl .imm 0 (.f .f32 []))]), [], none⟩,
      ⟨none, .store, [.t 12, .t 31], none⟩])
     (.seq
      (.region false [
       ⟨some 32, (.mkfn g_impl_TakeApart_1), [.t 4, .t 12, .t 5], none⟩,
       ⟨some 13, .mv, [.t 32], none⟩])
      (.seq
       (.region false [
        ⟨some 14, (.nilsl (.f .f32 [])), [], none⟩])
       (.seq
        (.seq
         (.region false [
          ⟨some 33, .mv, [.t 3], none⟩,
          ⟨some 34, .mv, [.k (.i .i64 0)], none⟩])
         (.block 0 (.loop (b_impl_TakeApart_L0 g_impl_isPeriodOf g_impl_isSide g_impl_within g_impl_TakeApart_1 g_impl_less g_impl_moving g_impl_mean g_impl_season g_impl_areFinite))))
        (.seq
         (.region false [
          ⟨some 48, .load, [.t 4], none⟩,
          ⟨some 49, .mv, [.t 14], none⟩,
          ⟨some 50, (.call g_impl_less), [.t 48, .t 49], none⟩,
          ⟨some 51, .mv, [.t 13], none⟩,
          ⟨some 52, .callv, [.t 51], none⟩,
          ⟨some 53, (.call g_impl_less), [.t 50, .t 52], none⟩,
          ⟨some 15, .mv, [.t 53], none⟩])
         (.seq
          (.seq
           (.region false [
            ⟨some 54, .mv, [.t 14], none⟩,
            ⟨some 55, (.call g_impl_areFinite), [.t 54], none⟩,
            ⟨some 56, .not, [.t 55], none⟩,
            ⟨some 57, .mv, [.t 56], none⟩,
            ⟨some 58, .load, [.t 12], some (57, false)⟩,
            ⟨some 59, (.call g_impl_areFinite), [.t 58], some (57, false)⟩,
            ⟨some 60, .not, [.t 59], some (57, false)⟩,
            ⟨some 61, .pick, [.t 57, .k (.b true), .t 60], none⟩,
            ⟨some 62, .mv, [.t 61], none⟩,
            ⟨some 63, .mv, [.t 15], some (62, false)⟩,
            ⟨some 64, (.call g_impl_areFinite), [.t 63], some (62, false)⟩,
            ⟨some 65, .not, [.t 64], some (62, false)⟩,
            ⟨some 66, .pick, [.t 62, .k (.b true), .t 65], none⟩])
           (.cond (.t 66)
            (.seq
             (.region false [
              ⟨some 8, (.nilsl (.f .f32 [])), [], none⟩,
              ⟨some 9, (.nilsl (.f .f32 [])), [], none⟩,
              ⟨some 10, (.nilsl (.f .f32 [])), [], none⟩,
              ⟨some 11, .mv, [.k (.b false)], none⟩])
             .ret)
            .skip))
          (.seq
           (.region false [
            ⟨some 67, .mv, [.t 14], none⟩,
            ⟨some 68, .mv, [.t 13], none⟩,
            ⟨some 69, .callv, [.t 68], none⟩,
            ⟨some 70, .mv, [.t 15], none⟩,
            ⟨some 8, .mv, [.t 67], none⟩,
            ⟨some 9, .mv, [.t 69], none⟩,
            ⟨some 10, .mv, [.t 70], none⟩,
            ⟨some 11, .mv, [.k (.b true)], none⟩])
           .ret)))))))))

abbrev Is_impl_TakeApart (P : Program) (g_f : FuncId) (g_impl_isPeriodOf g_impl_isSide g_impl_within g_impl_TakeApart_1 g_impl_less g_impl_moving g_impl_mean g_impl_season g_impl_areFinite : FuncId) : Prop := FnIs P g_f 71 [.t 8, .t 9, .t 10, .t 11] (b_impl_TakeApart g_impl_isPeriodOf g_impl_isSide g_impl_within g_impl_TakeApart_1 g_impl_less g_impl_moving g_impl_mean g_impl_season g_impl_areFinite)

abbrev C_impl_TakeApart (P : Program) (g_f : FuncId) : Prop := ∀ (xs : List Nat) (per : Int) (side : Int) (n : Int) (hx : xs.length ≤ maxLen), VCall P g_f [PS [0] .f32 xs, .i .i64 per, .i .i64 side, .i .i64 n] (.tup [OS 0 .f32 (if taOk xs per side n = true then (taS xs per.toNat side.toNat n.toNat).1 else []), OS 1 .f32 (if taOk xs per side n = true then sprM (taS xs per.toNat side.toNat n.toNat).2 xs.length else []), OS 2 .f32 (if taOk xs per side n = true then taR xs per.toNat side.toNat n.toNat else []), .b (taOk xs per side n)])
def oc_impl_TakeApart (xs : List Nat) (per : Int) (side : Int) (n : Int) (d : Nat) (as : List AV) : T AV := match d with | 18 => oc1_impl_isPeriodOf as | 22 => oc1_impl_isSide as | 27 => oc1_impl_within as | 38 => (match as with | [.bx _ [.sl _ _ (.f _ u)], .bx _ [.sl _ _ (.f _ v)], _] => .leaf (OS 0 .f32 (sprM v u.length)) | _ => .fail) | 39 => oc1_impl_less as | 41 => (match as with | [.sl _ _ (.f _ u), .i _ v, _] => .leaf (OS 0 .f32 (movM meanM u v.toNat)) | _ => .fail) | 44 => oc1_impl_less as | 46 => oc1_impl_season as | 50 => oc1_impl_less as | 52 => (match as with | [.bx _ [.sl _ _ (.f _ u)], .bx _ [.sl _ _ (.f _ v)], _] => .leaf (OS 0 .f32 (sprM v u.length)) | _ => .fail) | 53 => oc1_impl_less as | 55 => oc1_impl_areFinite as | 59 => oc1_impl_areFinite as | 64 => oc1_impl_areFinite as | 69 => (match as with | [.bx _ [.sl _ _ (.f _ u)], .bx _ [.sl _ _ (.f _ v)], _] => .leaf (OS 0 .f32 (sprM v u.length)) | _ => .fail) | _ => .fail
def h_impl_TakeApart_L0 (g_impl_isPeriodOf g_impl_isSide g_impl_within g_impl_TakeApart_1 g_impl_less g_impl_moving g_impl_mean g_impl_season g_impl_areFinite : FuncId) (xs : List Nat) (per : Int) (side : Int) (n : Int) (list0 : List Nat) (period0 : Int) (parts0 : List Nat) (all00 : List Nat) (all10 : List Nat) (all20 : Int) (trend : List Nat) (v34 : Int) : Env := [.any, .any, AV.i IntKind.i64 side, .any, .bx (Tag.own 32) [.sl (Tag.par [0]) 0 (.f FloatKind.f32 list0)], .bx (Tag.own 40) [.i IntKind.i64 period0]] ++ anys 6 ++ [.bx (Tag.own 96) [.sl (Tag.own 248) 0 (.f FloatKind.f32 parts0)], .fn g_impl_TakeApart_1 [.bx (Tag.own 32) [.sl (Tag.par [0]) 0 (.f FloatKind.f32 all00)], .bx (Tag.own 96) [.sl (Tag.own 248) 0 (.f FloatKind.f32 all10)], .bx (Tag.own 40) [.i IntKind.i64 all20]], .sl (.own 328) 0 (.f FloatKind.f32 trend)] ++ anys 18 ++ [AV.i IntKind.i64 n, .i IntKind.i64 v34] ++ anys 36

theorem q_impl_TakeApart_L0 {VC : FuncId → List AV → AV → Prop} {g_impl_isPeriodOf g_impl_isSide g_impl_within g_impl_TakeApart_1 g_impl_less g_impl_moving g_impl_mean g_impl_season g_impl_areFinite : FuncId} (xs : List Nat) (per : Int) (side : Int) (n : Int) (list0 : List Nat) (period0 : Int) (parts0 : List Nat) (all00 : List Nat) (all10 : List Nat) (all20 : Int) (trend : List Nat) (v34 : Int) {e_ : Ex} {σ_ : Env} (ht : T.ok (fun x_ => x_ = (e_, σ_)) (
      T.ite (decide (v34 < n))
        (T.ob
          (VC g_impl_TakeApart_1
            [AV.bx (Tag.par [0]) [AV.sl (Tag.par [0, 0]) 0 (Cont.f FloatKind.f32 all00)], AV.bx (Tag.par [1]) [AV.sl (Tag.par [1, 0]) 0 (Cont.f FloatKind.f32 all10)], AV.bx (Tag.par [2]) [AV.i IntKind.i64 all20]]
            (AV.sl (Tag.own 0) 0 (Cont.f FloatKind.f32 (sprM all10 (List.length all00)))))
          (T.ob
            (VC g_impl_less [AV.sl (Tag.par [0]) 0 (Cont.f FloatKind.f32 list0), AV.sl (Tag.par [1]) 0 (Cont.f FloatKind.f32 (sprM all10 (List.length all00)))]
              (AV.sl (Tag.own 0) 0 (Cont.f FloatKind.f32 (lessM list0 (sprM all10 (List.length all00))))))
            (T.ob
              (VC g_impl_moving [AV.sl (Tag.par [0]) 0 (Cont.f FloatKind.f32 (lessM list0 (sprM all10 (List.length all00)))), AV.i IntKind.i64 side, AV.fn g_impl_mean []]
                (AV.sl (Tag.own 0) 0 (Cont.f FloatKind.f32 (movM meanM (lessM list0 (sprM all10 (List.length all00))) (Int.toNat side)))))
              (T.ob
                (VC g_impl_less [AV.sl (Tag.par [0]) 0 (Cont.f FloatKind.f32 list0), AV.sl (Tag.par [1]) 0 (Cont.f FloatKind.f32 (movM meanM (lessM list0 (sprM all10 (List.length all00))) (Int.toNat side)))]
                  (AV.sl (Tag.own 0) 0 (Cont.f FloatKind.f32 (lessM list0 (movM meanM (lessM list0 (sprM all10 (List.length all00))) (Int.toNat side))))))
                (T.ob
                  (VC g_impl_season [AV.sl (Tag.par [0]) 0 (Cont.f FloatKind.f32 (lessM list0 (movM meanM (lessM list0 (sprM all10 (List.length all00))) (Int.toNat side)))), AV.i IntKind.i64 period0]
                    (AV.sl (Tag.own 0) 0 (Cont.f FloatKind.f32 (seasonM (lessM list0 (movM meanM (lessM list0 (sprM all10 (List.length all00))) (Int.toNat side))) (Int.toNat period0)))))
                  (T.ob (false = false)
                    (T.leaf
                      (Ex.normal,
                        AV.any ::
                          AV.any ::
                            AV.i IntKind.i64 side ::
                              AV.any ::
                                AV.bx (Tag.own 32) [AV.sl (Tag.par [0]) 0 (Cont.f FloatKind.f32 list0)] ::
                                  AV.bx (Tag.own 40) [AV.i IntKind.i64 period0] ::
                                    (anys 6 ++
                                      AV.bx (Tag.own 96)
                                          [AV.sl (Tag.own 368) 0 (Cont.f FloatKind.f32 (seasonM (lessM list0 (movM meanM (lessM list0 (sprM all10 (List.length all00))) (Int.toNat side))) (Int.toNat period0)))] ::
                                        AV.fn g_impl_TakeApart_1
                                            [AV.bx (Tag.own 32) [AV.sl (Tag.par [0]) 0 (Cont.f FloatKind.f32 all00)],
                                              AV.bx (Tag.own 96)
                                                [AV.sl (Tag.own 368) 0 (Cont.f FloatKind.f32 (seasonM (lessM list0 (movM meanM (lessM list0 (sprM all10 (List.length all00))) (Int.toNat side))) (Int.toNat period0)))],
                                              AV.bx (Tag.own 40) [AV.i IntKind.i64 all20]] ::
                                          AV.sl (Tag.own 328) 0 (Cont.f FloatKind.f32 (movM meanM (lessM list0 (sprM all10 (List.length all00))) (Int.toNat side))) ::
                                            (anys 18 ++ AV.i IntKind.i64 n :: AV.i IntKind.i64 (IntKind.wrap IntKind.i64 (v34 + 1)) :: anys 36))))))))))
        (T.leaf
          (Ex.exit 0,
            h_impl_TakeApart_L0 g_impl_isPeriodOf g_impl_isSide g_impl_within g_impl_TakeApart_1 g_impl_less g_impl_moving g_impl_mean g_impl_season g_impl_areFinite xs per side n list0 period0 parts0 all00 all10 all20 trend
              v34)))) :
    Exec VC ps_impl_TakeApart (b_impl_TakeApart_L0 g_impl_isPeriodOf g_impl_isSide g_impl_within g_impl_TakeApart_1 g_impl_less g_impl_moving g_impl_mean g_impl_season g_impl_areFinite) (h_impl_TakeApart_L0 g_impl_isPeriodOf g_impl_isSide g_impl_within g_impl_TakeApart_1 g_impl_less g_impl_moving g_impl_mean g_impl_season g_impl_areFinite xs per side n list0 period0 parts0 all00 all10 all20 trend v34) e_ σ_ := evL_of (lv := lv_impl_TakeApart_L0) (rs := [8, 9, 10, 11]) (O := ⟨oc_impl_TakeApart xs per side n, fun _ _ => none⟩) (by kernel_rfl) ht

theorem q_impl_TakeApart {P : Program} {g_f : FuncId} {g_impl_isPeriodOf g_impl_isSide g_impl_within g_impl_TakeApart_1 g_impl_less g_impl_moving g_impl_mean g_impl_season g_impl_areFinite : FuncId} (h_ : Is_impl_TakeApart P g_f g_impl_isPeriodOf g_impl_isSide g_impl_within g_impl_TakeApart_1 g_impl_less g_impl_moving g_impl_mean g_impl_season g_impl_areFinite) (xs : List Nat) (per : Int) (side : Int) (n : Int) (ht : T.ok (fun x_ => x_ = .tup [OS 0 .f32 (if taOk xs per side n = true then (taS xs per.toNat side.toNat n.toNat).1 else []), OS 1 .f32 (if taOk xs per side n = true then sprM (taS xs per.toNat side.toNat n.toNat).2 xs.length else []), OS 2 .f32 (if taOk xs per side n = true then taR xs per.toNat side.toNat n.toNat else []), .b (taOk xs per side n)]) (
      T.ob (false = false)
        (T.ob (false = false)
          (T.ob ((VCall P) g_impl_isPeriodOf [AV.sl (Tag.par [0]) 0 (Cont.f FloatKind.f32 xs), AV.i IntKind.i64 per] (AV.b (seriesM xs && inM per 1 (↑(List.length xs) : Int))))
            (T.ite (!(seriesM xs && inM per 1 (↑(List.length xs) : Int)))
              (T.leaf (AV.tup [AV.sl (Tag.own 0) 0 (Cont.f FloatKind.f32 []), AV.sl (Tag.own 1) 0 (Cont.f FloatKind.f32 []), AV.sl (Tag.own 2) 0 (Cont.f FloatKind.f32 []), AV.b false]))
              (T.ob ((VCall P) g_impl_isSide [AV.i IntKind.i64 side] (AV.b (inM side 0 96)))
                (T.ite (!inM side 0 96) (T.leaf (AV.tup [AV.sl (Tag.own 0) 0 (Cont.f FloatKind.f32 []), AV.sl (Tag.own 1) 0 (Cont.f FloatKind.f32 []), AV.sl (Tag.own 2) 0 (Cont.f FloatKind.f32 []), AV.b false]))
                  (T.ob ((VCall P) g_impl_within [AV.i IntKind.i64 n, AV.i IntKind.i64 1, AV.i IntKind.i64 8] (AV.b (inM n 1 8)))
                    (T.ite (!inM n 1 8) (T.leaf (AV.tup [AV.sl (Tag.own 0) 0 (Cont.f FloatKind.f32 []), AV.sl (Tag.own 1) 0 (Cont.f FloatKind.f32 []), AV.sl (Tag.own 2) 0 (Cont.f FloatKind.f32 []), AV.b false]))
                      (T.ob (per = per ∧ 0 ≤ per ∧ per ≤ 4294967296)
                        (T.ob (false = false)
                          (T.ob
                            (Exec (VCall P) ps_impl_TakeApart
                              (VCode.block 0 (VCode.loop (b_impl_TakeApart_L0 g_impl_isPeriodOf g_impl_isSide g_impl_within g_impl_TakeApart_1 g_impl_less g_impl_moving g_impl_mean g_impl_season g_impl_areFinite)))
                              (AV.any ::
                                AV.any ::
                                  AV.i IntKind.i64 side ::
                                    AV.any ::
                                      AV.bx (Tag.own 32) [AV.sl (Tag.par [0]) 0 (Cont.f FloatKind.f32 xs)] ::
                                        AV.bx (Tag.own 40) [AV.i IntKind.i64 per] ::
                                          (anys 6 ++
                                            AV.bx (Tag.own 96) [AV.sl (Tag.own 248) 0 (Cont.f FloatKind.f32 (List.replicate (Int.toNat per) 0))] ::
                                              AV.fn g_impl_TakeApart_1
                                                  [AV.bx (Tag.own 32) [AV.sl (Tag.par [0]) 0 (Cont.f FloatKind.f32 xs)], AV.bx (Tag.own 96) [AV.sl (Tag.own 248) 0 (Cont.f FloatKind.f32 (List.replicate (Int.toNat per) 0))],
                                                    AV.bx (Tag.own 40) [AV.i IntKind.i64 per]] ::
                                                AV.sl Tag.nil 0 (Cont.f FloatKind.f32 []) :: (anys 18 ++ AV.i IntKind.i64 n :: AV.i IntKind.i64 0 :: anys 36)))
                              Ex.normal
                              (h_impl_TakeApart_L0 g_impl_isPeriodOf g_impl_isSide g_impl_within g_impl_TakeApart_1 g_impl_less g_impl_moving g_impl_mean g_impl_season g_impl_areFinite xs per side n xs per
                                (Prod.snd (taS xs (Int.toNat per) (Int.toNat side) (Int.toNat n))) xs (Prod.snd (taS xs (Int.toNat per) (Int.toNat side) (Int.toNat n))) per
                                (Prod.fst (taS xs (Int.toNat per) (Int.toNat side) (Int.toNat n))) n))
                            (T.ob
                              ((VCall P) g_impl_less [AV.sl (Tag.par [0]) 0 (Cont.f FloatKind.f32 xs), AV.sl (Tag.par [1]) 0 (Cont.f FloatKind.f32 (Prod.fst (taS xs (Int.toNat per) (Int.toNat side) (Int.toNat n))))]
                                (AV.sl (Tag.own 0) 0 (Cont.f FloatKind.f32 (lessM xs (Prod.fst (taS xs (Int.toNat per) (Int.toNat side) (Int.toNat n)))))))
                              (T.ob
                                ((VCall P) g_impl_TakeApart_1
                                  [AV.bx (Tag.par [0]) [AV.sl (Tag.par [0, 0]) 0 (Cont.f FloatKind.f32 xs)],
                                    AV.bx (Tag.par [1]) [AV.sl (Tag.par [1, 0]) 0 (Cont.f FloatKind.f32 (Prod.snd (taS xs (Int.toNat per) (Int.toNat side) (Int.toNat n))))], AV.bx (Tag.par [2]) [AV.i IntKind.i64 per]]
                                  (AV.sl (Tag.own 0) 0 (Cont.f FloatKind.f32 (sprM (Prod.snd (taS xs (Int.toNat per) (Int.toNat side) (Int.toNat n))) (List.length xs)))))
                                (T.ob
                                  ((VCall P) g_impl_less
                                    [AV.sl (Tag.par [0]) 0 (Cont.f FloatKind.f32 (lessM xs (Prod.fst (taS xs (Int.toNat per) (Int.toNat side) (Int.toNat n))))),
                                      AV.sl (Tag.par [1]) 0 (Cont.f FloatKind.f32 (sprM (Prod.snd (taS xs (Int.toNat per) (Int.toNat side) (Int.toNat n))) (List.length xs)))]
                                    (AV.sl (Tag.own 0) 0
                                      (Cont.f FloatKind.f32
                                        (lessM (lessM xs (Prod.fst (taS xs (Int.toNat per) (Int.toNat side) (Int.toNat n)))) (sprM (Prod.snd (taS xs (Int.toNat per) (Int.toNat side) (Int.toNat n))) (List.length xs))))))
                                  (T.ob
                                    ((VCall P) g_impl_areFinite [AV.sl (Tag.par [0]) 0 (Cont.f FloatKind.f32 (Prod.fst (taS xs (Int.toNat per) (Int.toNat side) (Int.toNat n))))]
                                      (AV.b (finAllM (Prod.fst (taS xs (Int.toNat per) (Int.toNat side) (Int.toNat n))))))
                                    (T.ite (!finAllM (Prod.fst (taS xs (Int.toNat per) (Int.toNat side) (Int.toNat n))))
                                      (T.leaf (AV.tup [AV.sl (Tag.own 0) 0 (Cont.f FloatKind.f32 []), AV.sl (Tag.own 1) 0 (Cont.f FloatKind.f32 []), AV.sl (Tag.own 2) 0 (Cont.f FloatKind.f32 []), AV.b false]))
                                      (T.ob
                                        ((VCall P) g_impl_areFinite [AV.sl (Tag.par [0]) 0 (Cont.f FloatKind.f32 (Prod.snd (taS xs (Int.toNat per) (Int.toNat side) (Int.toNat n))))]
                                          (AV.b (finAllM (Prod.snd (taS xs (Int.toNat per) (Int.toNat side) (Int.toNat n))))))
                                        (T.ite (!finAllM (Prod.snd (taS xs (Int.toNat per) (Int.toNat side) (Int.toNat n))))
                                          (T.leaf (AV.tup [AV.sl (Tag.own 0) 0 (Cont.f FloatKind.f32 []), AV.sl (Tag.own 1) 0 (Cont.f FloatKind.f32 []), AV.sl (Tag.own 2) 0 (Cont.f FloatKind.f32 []), AV.b false]))
                                          (T.ob
                                            ((VCall P) g_impl_areFinite
                                              [AV.sl (Tag.par [0]) 0
                                                  (Cont.f FloatKind.f32
                                                    (lessM (lessM xs (Prod.fst (taS xs (Int.toNat per) (Int.toNat side) (Int.toNat n))))
                                                      (sprM (Prod.snd (taS xs (Int.toNat per) (Int.toNat side) (Int.toNat n))) (List.length xs))))]
                                              (AV.b
                                                (finAllM
                                                  (lessM (lessM xs (Prod.fst (taS xs (Int.toNat per) (Int.toNat side) (Int.toNat n))))
                                                    (sprM (Prod.snd (taS xs (Int.toNat per) (Int.toNat side) (Int.toNat n))) (List.length xs))))))
                                            (T.ite
                                              (!finAllM
                                                  (lessM (lessM xs (Prod.fst (taS xs (Int.toNat per) (Int.toNat side) (Int.toNat n))))
                                                    (sprM (Prod.snd (taS xs (Int.toNat per) (Int.toNat side) (Int.toNat n))) (List.length xs))))
                                              (T.leaf (AV.tup [AV.sl (Tag.own 0) 0 (Cont.f FloatKind.f32 []), AV.sl (Tag.own 1) 0 (Cont.f FloatKind.f32 []), AV.sl (Tag.own 2) 0 (Cont.f FloatKind.f32 []), AV.b false]))
                                              (T.ob
                                                ((VCall P) g_impl_TakeApart_1
                                                  [AV.bx (Tag.par [0]) [AV.sl (Tag.par [0, 0]) 0 (Cont.f FloatKind.f32 xs)],
                                                    AV.bx (Tag.par [1]) [AV.sl (Tag.par [1, 0]) 0 (Cont.f FloatKind.f32 (Prod.snd (taS xs (Int.toNat per) (Int.toNat side) (Int.toNat n))))],
                                                    AV.bx (Tag.par [2]) [AV.i IntKind.i64 per]]
                                                  (AV.sl (Tag.own 0) 0 (Cont.f FloatKind.f32 (sprM (Prod.snd (taS xs (Int.toNat per) (Int.toNat side) (Int.toNat n))) (List.length xs)))))
                                                (T.leaf
                                                  (AV.tup
                                                    [AV.sl (Tag.own 0) 0 (Cont.f FloatKind.f32 (Prod.fst (taS xs (Int.toNat per) (Int.toNat side) (Int.toNat n)))),
                                                      AV.sl (Tag.own 1) 0 (Cont.f FloatKind.f32 (sprM (Prod.snd (taS xs (Int.toNat per) (Int.toNat side) (Int.toNat n))) (List.length xs))),
                                                      AV.sl (Tag.own 2) 0
                                                        (Cont.f FloatKind.f32
                                                          (lessM (lessM xs (Prod.fst (taS xs (Int.toNat per) (Int.toNat side) (Int.toNat n))))
                                                            (sprM (Prod.snd (taS xs (Int.toNat per) (Int.toNat side) (Int.toNat n))) (List.length xs)))),
                                                      AV.b true])))))))))))))))))))))))) :
    VCall P g_f [PS [0] .f32 xs, .i .i64 per, .i .i64 side, .i .i64 n] (.tup [OS 0 .f32 (if taOk xs per side n = true then (taS xs per.toNat side.toNat n.toNat).1 else []), OS 1 .f32 (if taOk xs per side n = true then sprM (taS xs per.toNat side.toNat n.toNat).2 xs.length else []), OS 2 .f32 (if taOk xs per side n = true then taR xs per.toNat side.toNat n.toNat else []), .b (taOk xs per side n)]) := h_.call_of ps_impl_TakeApart ⟨oc_impl_TakeApart xs per side n, fun id σ => match id with | 0 => some (lv_impl_TakeApart_L0, .leaf (.normal, h_impl_TakeApart_L0 g_impl_isPeriodOf g_impl_isSide g_impl_within g_impl_TakeApart_1 g_impl_less g_impl_moving g_impl_mean g_impl_season g_impl_areFinite xs per side n xs per (taS xs per.toNat side.toNat n.toNat).2 xs (taS xs per.toNat side.toNat n.toNat).2 per (taS xs per.toNat side.toNat n.toNat).1 n)) | _ => none⟩ (by kernel_rfl) ht

-- END impl_TakeApart

/-- the loop's head ahead of the first round -/
def h_ta_nil (g_impl_isPeriodOf g_impl_isSide g_impl_within g_impl_TakeApart_1 g_impl_less g_impl_moving g_impl_mean g_impl_season g_impl_areFinite : FuncId) (xs : List Nat) (per : Int) (side : Int) (n : Int) (list0 : List Nat) (period0 : Int) (parts0 : List Nat) (all00 : List Nat) (all10 : List Nat) (all20 : Int) (trend : List Nat) (v34 : Int) : Env := [.any, .any, AV.i IntKind.i64 side, .any, .bx (Tag.own 32) [.sl (Tag.par [0]) 0 (.f FloatKind.f32 list0)], .bx (Tag.own 40) [.i IntKind.i64 period0]] ++ anys 6 ++ [.bx (Tag.own 96) [.sl (Tag.own 248) 0 (.f FloatKind.f32 parts0)], .fn g_impl_TakeApart_1 [.bx (Tag.own 32) [.sl (Tag.par [0]) 0 (.f FloatKind.f32 all00)], .bx (Tag.own 96) [.sl (Tag.own 248) 0 (.f FloatKind.f32 all10)], .bx (Tag.own 40) [.i IntKind.i64 all20]], .sl .nil 0 (.f FloatKind.f32 [])] ++ anys 18 ++ [AV.i IntKind.i64 n, .i IntKind.i64 v34] ++ anys 36
theorem l_ta_nil {VC : FuncId → List AV → AV → Prop} {g_impl_isPeriodOf g_impl_isSide g_impl_within g_impl_TakeApart_1 g_impl_less g_impl_moving g_impl_mean g_impl_season g_impl_areFinite : FuncId} (xs : List Nat) (per : Int) (side : Int) (n : Int) (list0 : List Nat) (period0 : Int) (parts0 : List Nat) (all00 : List Nat) (all10 : List Nat) (all20 : Int) (trend : List Nat) (v34 : Int) {e_ : Ex} {σ_ : Env} (ht : T.ok (fun x_ => x_ = (e_, σ_)) (
      T.ite (decide (v34 < n))
        (T.ob
          (VC g_impl_TakeApart_1
            [AV.bx (Tag.par [0]) [AV.sl (Tag.par [0, 0]) 0 (Cont.f FloatKind.f32 all00)], AV.bx (Tag.par [1]) [AV.sl (Tag.par [1, 0]) 0 (Cont.f FloatKind.f32 all10)], AV.bx (Tag.par [2]) [AV.i IntKind.i64 all20]]
            (AV.sl (Tag.own 0) 0 (Cont.f FloatKind.f32 (sprM all10 (List.length all00)))))
          (T.ob
            (VC g_impl_less [AV.sl (Tag.par [0]) 0 (Cont.f FloatKind.f32 list0), AV.sl (Tag.par [1]) 0 (Cont.f FloatKind.f32 (sprM all10 (List.length all00)))]
              (AV.sl (Tag.own 0) 0 (Cont.f FloatKind.f32 (lessM list0 (sprM all10 (List.length all00))))))
            (T.ob
              (VC g_impl_moving [AV.sl (Tag.par [0]) 0 (Cont.f FloatKind.f32 (lessM list0 (sprM all10 (List.length all00)))), AV.i IntKind.i64 side, AV.fn g_impl_mean []]
                (AV.sl (Tag.own 0) 0 (Cont.f FloatKind.f32 (movM meanM (lessM list0 (sprM all10 (List.length all00))) (Int.toNat side)))))
              (T.ob
                (VC g_impl_less [AV.sl (Tag.par [0]) 0 (Cont.f FloatKind.f32 list0), AV.sl (Tag.par [1]) 0 (Cont.f FloatKind.f32 (movM meanM (lessM list0 (sprM all10 (List.length all00))) (Int.toNat side)))]
                  (AV.sl (Tag.own 0) 0 (Cont.f FloatKind.f32 (lessM list0 (movM meanM (lessM list0 (sprM all10 (List.length all00))) (Int.toNat side))))))
                (T.ob
                  (VC g_impl_season [AV.sl (Tag.par [0]) 0 (Cont.f FloatKind.f32 (lessM list0 (movM meanM (lessM list0 (sprM all10 (List.length all00))) (Int.toNat side)))), AV.i IntKind.i64 period0]
                    (AV.sl (Tag.own 0) 0 (Cont.f FloatKind.f32 (seasonM (lessM list0 (movM meanM (lessM list0 (sprM all10 (List.length all00))) (Int.toNat side))) (Int.toNat period0)))))
                  (T.ob (false = false)
                    (T.leaf
                      (Ex.normal,
                        AV.any ::
                          AV.any ::
                            AV.i IntKind.i64 side ::
                              AV.any ::
                                AV.bx (Tag.own 32) [AV.sl (Tag.par [0]) 0 (Cont.f FloatKind.f32 list0)] ::
                                  AV.bx (Tag.own 40) [AV.i IntKind.i64 period0] ::
                                    (anys 6 ++
                                      AV.bx (Tag.own 96)
                                          [AV.sl (Tag.own 368) 0 (Cont.f FloatKind.f32 (seasonM (lessM list0 (movM meanM (lessM list0 (sprM all10 (List.length all00))) (Int.toNat side))) (Int.toNat period0)))] ::
                                        AV.fn g_impl_TakeApart_1
                                            [AV.bx (Tag.own 32) [AV.sl (Tag.par [0]) 0 (Cont.f FloatKind.f32 all00)],
                                              AV.bx (Tag.own 96)
                                                [AV.sl (Tag.own 368) 0 (Cont.f FloatKind.f32 (seasonM (lessM list0 (movM meanM (lessM list0 (sprM all10 (List.length all00))) (Int.toNat side))) (Int.toNat period0)))],
                                              AV.bx (Tag.own 40) [AV.i IntKind.i64 all20]] ::
                                          AV.sl (Tag.own 328) 0 (Cont.f FloatKind.f32 (movM meanM (lessM list0 (sprM all10 (List.length all00))) (Int.toNat side))) ::
                                            (anys 18 ++ AV.i IntKind.i64 n :: AV.i IntKind.i64 (IntKind.wrap IntKind.i64 (v34 + 1)) :: anys 36))))))))))
        (T.leaf
          (Ex.exit 0,
            h_ta_nil g_impl_isPeriodOf g_impl_isSide g_impl_within g_impl_TakeApart_1 g_impl_less g_impl_moving g_impl_mean g_impl_season g_impl_areFinite xs per side n list0 period0 parts0 all00 all10 all20 trend v34)))) :
    Exec VC ps_impl_TakeApart (b_impl_TakeApart_L0 g_impl_isPeriodOf g_impl_isSide g_impl_within g_impl_TakeApart_1 g_impl_less g_impl_moving g_impl_mean g_impl_season g_impl_areFinite) (h_ta_nil g_impl_isPeriodOf g_impl_isSide g_impl_within g_impl_TakeApart_1 g_impl_less g_impl_moving g_impl_mean g_impl_season g_impl_areFinite xs per side n list0 period0 parts0 all00 all10 all20 trend v34) e_ σ_ := evL_of (lv := lv_impl_TakeApart_L0) (rs := [8, 9, 10, 11]) (O := ⟨oc_impl_TakeApart xs per side n, fun _ _ => none⟩) (by kernel_rfl) ht
theorem spr_len (ps : List Nat) (n : Nat) : (sprM ps n).length = n := tab_len _ _
theorem k_impl_TakeApart_1 {P : Program} {f : FuncId} (h : Is_impl_TakeApart_1 P f) : C_impl_TakeApart_1 P f := by
  rintro xs ps per ⟨rfl, hp⟩ hx
  refine q_impl_TakeApart_1 h xs ps _ ⟨?_, fun _ => rfl⟩
  refine for_up (e := .exit 0) xs.length (fun i => h_impl_TakeApart_1_L0 xs ps ps.length (tab i fun i => ps.getD (i % ps.length) 0) i) rfl (fun i hi => ?_) ?_
  · refine q_impl_TakeApart_1_L0 _ _ _ _ _ ?_
    have hm := Nat.mod_lt i (show 0 < ps.length by omega)
    rw [tmod_nat]
    repeat' (first | with_reducible refine T.ok_ob ?_ (fun _ => ?_) | with_reducible refine T.ok_ite (fun _ => ?_) (fun _ => ?_) | with_reducible refine T.ok_leaf ?_)
    all_goals (try simp only [decide_eq_true_eq, decide_eq_false_iff_not, Bool.not_eq_true', Bool.not_eq_false', Bool.not_eq_eq_eq_not, Bool.not_true, Bool.not_false, Int.toNat_natCast, tab_len, List.length_append, List.length_singleton, List.length_cons, List.length_nil, List.length_drop, List.length_take, getD_drop', getD_nat, reduceCtorEq] at *)
    all_goals (try simp (disch := omega) only [wrap64_id] at *)
    all_goals first | omega | (exfalso; omega) | exact True.intro | skip
    all_goals first | omega | (rw [tab_succ]; rfl)
  · refine q_impl_TakeApart_1_L0 _ _ _ _ _ ?_
    repeat' (first | with_reducible refine T.ok_ob ?_ (fun _ => ?_) | with_reducible refine T.ok_ite (fun _ => ?_) (fun _ => ?_) | with_reducible refine T.ok_leaf ?_)
    all_goals (try simp only [decide_eq_true_eq, decide_eq_false_iff_not, Bool.not_eq_true', Bool.not_eq_false', Bool.not_eq_eq_eq_not, Bool.not_true, Bool.not_false, Int.toNat_natCast, tab_len, List.length_append, List.length_singleton, List.length_cons, List.length_nil, List.length_drop, List.length_take, getD_drop', getD_nat, reduceCtorEq] at *)
    all_goals (try simp (disch := omega) only [wrap64_id] at *)
    all_goals first | omega | (exfalso; omega) | exact True.intro | skip
    all_goals rfl
theorem ta_len (xs : List Nat) (p s : Nat) : ∀ k, (taS xs p s k).2.length = p
  | 0 => by simp [taS]
  | k + 1 => season_len _ _
theorem ta_len1 (xs : List Nat) (p s k : Nat) : (taS xs p s (k + 1)).1.length = xs.length := by
  show (movM meanM _ s).length = _
  rw [mov_len, less_len]
theorem k_impl_TakeApart {P : Program} {f g1 g2 g3 g4 g5 g6 g7 g8 g9 : FuncId} (h : Is_impl_TakeApart P f g1 g2 g3 g4 g5 g6 g7 g8 g9) (c1 : C_impl_isPeriodOf P g1) (c2 : C_impl_isSide P g2) (c3 : C_impl_within P g3) (c4 : C_impl_TakeApart_1 P g4) (c5 : C_impl_less P g5) (c6 : C_impl_moving P g6) (c7 : C_impl_mean P g7) (c8 : C_impl_season P g8) (c9 : C_impl_areFinite P g9) : C_impl_TakeApart P f := by
  intro xs per side n hx
  refine q_impl_TakeApart h xs per side n ?_
  have c1 := c1 xs per hx
  cases h1 : (seriesM xs && inM per 1 xs.length)
  · have e : taOk xs per side n = false := by unfold taOk; rw [h1]; rfl
    rw [e]
    repeat' (first | with_reducible refine T.ok_ob ?_ (fun _ => ?_) | with_reducible refine T.ok_ite (fun _ => ?_) (fun _ => ?_) | with_reducible refine T.ok_leaf ?_)
    all_goals first | exact h1 ▸ c1 | rfl | contradiction
  have c2 := c2 side
  cases h2 : inM side 0 96
  · have e : taOk xs per side n = false := by unfold taOk; rw [h1, h2]; rfl
    rw [e]
    repeat' (first | with_reducible refine T.ok_ob ?_ (fun _ => ?_) | with_reducible refine T.ok_ite (fun _ => ?_) (fun _ => ?_) | with_reducible refine T.ok_leaf ?_)
    all_goals first | exact h1 ▸ c1 | exact h2 ▸ c2 | rfl | contradiction
  have c3 := c3 n 1 8
  cases h3 : inM n 1 8
  · have e : taOk xs per side n = false := by unfold taOk; rw [h1, h2, h3]; rfl
    rw [e]
    repeat' (first | with_reducible refine T.ok_ob ?_ (fun _ => ?_) | with_reducible refine T.ok_ite (fun _ => ?_) (fun _ => ?_) | with_reducible refine T.ok_leaf ?_)
    all_goals first | exact h1 ▸ c1 | exact h2 ▸ c2 | exact h3 ▸ c3 | rfl | contradiction
  have h1' := Bool.and_eq_true_iff.1 h1
  have hl := series_len h1'.1
  have hp : 1 ≤ per ∧ per ≤ xs.length := by simpa [inM] using h1'.2
  have hs : 0 ≤ side ∧ side ≤ 96 := by simpa [inM] using h2
  have hn : 1 ≤ n ∧ n ≤ 8 := by simpa [inM] using h3
  obtain ⟨p, rfl⟩ : ∃ p : Nat, per = p := ⟨per.toNat, by omega⟩
  obtain ⟨s, rfl⟩ : ∃ s : Nat, side = s := ⟨side.toNat, by omega⟩
  obtain ⟨m, rfl⟩ : ∃ m : Nat, n = m := ⟨n.toNat, by omega⟩
  simp only [Int.toNat_natCast] at *
  have tl := fun k => ta_len xs p s k
  have pl : (taS xs p s m).2.length = p := tl m
  obtain ⟨m', rfl⟩ : ∃ m', m = m' + 1 := ⟨m - 1, by omega⟩
  have t1 := ta_len1 xs p s m'
  have e : taOk xs p s ((m' + 1 : Nat) : Int) = (finAllM (taS xs p s (m' + 1)).1 && (finAllM (taS xs p s (m' + 1)).2 && finAllM (taR xs p s (m' + 1)))) := by unfold taOk; rw [h1, h2, h3]; rfl
  have d4 := fun k => c4 xs (taS xs p s k).2 p (by rw [tl k]; exact ⟨rfl, by omega⟩) hl.2
  let st : Nat → Env := fun k => h_impl_TakeApart_L0 g1 g2 g3 g4 g5 g6 g7 g8 g9 xs p s ((m' + 1 : Nat) : Int) xs p (taS xs p s k).2 xs (taS xs p s k).2 p (taS xs p s k).1 k
  have rd : ∀ k, k < m' + 1 → ∀ hd : Env, (Exec (VCall P) ps_impl_TakeApart (b_impl_TakeApart_L0 g1 g2 g3 g4 g5 g6 g7 g8 g9) hd .normal (Env.rnm 368 248 (st (k + 1)))) → Exec (VCall P) ps_impl_TakeApart (b_impl_TakeApart_L0 g1 g2 g3 g4 g5 g6 g7 g8 g9) hd .normal (st (k + 1)) :=
    fun k _ hd key => Exec.renameR 368 248 (by decide) (by decide) key
  have d5a := fun k => c5 xs (sprM (taS xs p s k).2 xs.length) (by rw [spr_len]; exact Nat.le_refl _) (by omega)
  have d6 := fun k => c6 (lessM xs (sprM (taS xs p s k).2 xs.length)) s g7 meanM ⟨fun _ => True, fun _ => trivial, fun ys _ _ _ => c7 ys (by rw [maxLen_eq]; omega)⟩ hs (by rw [less_len]; exact hl.2)
  have d5b := fun k => c5 xs (taS xs p s (k + 1)).1 (by rw [ta_len1]; exact Nat.le_refl _) (by omega)
  have d8 := fun k => c8 (lessM xs (taS xs p s (k + 1)).1) p (by rw [less_len]; omega) (by rw [less_len]; exact hl.2)
  simp only [Int.toNat_natCast] at d6 d8
  have first : Exec (VCall P) ps_impl_TakeApart (b_impl_TakeApart_L0 g1 g2 g3 g4 g5 g6 g7 g8 g9) (h_ta_nil g1 g2 g3 g4 g5 g6 g7 g8 g9 xs p s ((m' + 1 : Nat) : Int) xs p (taS xs p s 0).2 xs (taS xs p s 0).2 p [] ((0 : Nat) : Int)) .normal (st 1) := by
    refine rd 0 (by omega) _ ?_
    refine l_ta_nil _ _ _ _ _ _ _ _ _ _ _ _ ?_
    have w : IntKind.wrap .i64 (((0 : Nat) : Int) + 1) = ((1 : Nat) : Int) := by decide
    rw [w, decide_eq_true (show ((0 : Nat) : Int) < ((m' + 1 : Nat) : Int) by omega)]
    simp only [Int.toNat_natCast]
    repeat' (first | with_reducible refine T.ok_ob ?_ (fun _ => ?_) | with_reducible refine T.ok_ite (fun _ => ?_) (fun _ => ?_) | with_reducible refine T.ok_leaf ?_)
    all_goals first | contradiction | exact d4 0 | exact d5a 0 | exact d6 0 | exact d5b 0 | exact d8 0 | trivial | rfl
  have more : ∀ k, 1 ≤ k → k < m' + 1 → Exec (VCall P) ps_impl_TakeApart (b_impl_TakeApart_L0 g1 g2 g3 g4 g5 g6 g7 g8 g9) (st k) .normal (st (k + 1)) := by
    intro k h0 hk
    refine rd k hk _ ?_
    refine q_impl_TakeApart_L0 _ _ _ _ _ _ _ _ _ _ _ _ ?_
    have w : IntKind.wrap .i64 ((k : Int) + 1) = ((k + 1 : Nat) : Int) := by rw [wrap64_id (by omega) (by omega)]; omega
    rw [w, decide_eq_true (show (k : Int) < ((m' + 1 : Nat) : Int) by omega)]
    simp only [Int.toNat_natCast]
    repeat' (first | with_reducible refine T.ok_ob ?_ (fun _ => ?_) | with_reducible refine T.ok_ite (fun _ => ?_) (fun _ => ?_) | with_reducible refine T.ok_leaf ?_)
    all_goals first | contradiction | exact d4 k | exact d5a k | exact d6 k | exact d5b k | exact d8 k | trivial | rfl
  have last : Exec (VCall P) ps_impl_TakeApart (b_impl_TakeApart_L0 g1 g2 g3 g4 g5 g6 g7 g8 g9) (st (m' + 1)) (.exit 0) (st (m' + 1)) := by
    refine q_impl_TakeApart_L0 _ _ _ _ _ _ _ _ _ _ _ _ ?_
    rw [decide_eq_false (show ¬ ((m' + 1 : Nat) : Int) < ((m' + 1 : Nat) : Int) by omega)]
    repeat' (first | with_reducible refine T.ok_ob ?_ (fun _ => ?_) | with_reducible refine T.ok_ite (fun _ => ?_) (fun _ => ?_) | with_reducible refine T.ok_leaf ?_)
    all_goals first | contradiction | rfl
  have all : ∀ j k, 1 ≤ k → k + j = m' + 1 → Exec (VCall P) ps_impl_TakeApart (.loop (b_impl_TakeApart_L0 g1 g2 g3 g4 g5 g6 g7 g8 g9)) (st k) (.exit 0) (st (m' + 1)) := by
    intro j
    induction j with
    | zero => intro k _ hk; have : k = m' + 1 := by omega
              subst this; exact .loopX last (by simp)
    | succ j ih => intro k h0 hk; exact .loopN (more k h0 (by omega)) (ih (k + 1) (by omega) (by omega))
  have whole : Exec (VCall P) ps_impl_TakeApart (VCode.block 0 (VCode.loop (b_impl_TakeApart_L0 g1 g2 g3 g4 g5 g6 g7 g8 g9))) (h_ta_nil g1 g2 g3 g4 g5 g6 g7 g8 g9 xs p s ((m' + 1 : Nat) : Int) xs p (taS xs p s 0).2 xs (taS xs p s 0).2 p [] ((0 : Nat) : Int)) .normal (st (m' + 1)) :=
    Exec.block (.loopN first (all m' 1 (by omega) (by omega)))
  have a1 := c9 (taS xs p s (m' + 1)).1 (by rw [t1]; exact hx)
  have a2 := c9 (taS xs p s (m' + 1)).2 (by rw [pl, maxLen_eq]; omega)
  have a3 := c9 (taR xs p s (m' + 1)) (by unfold taR; rw [less_len, less_len]; exact hx)
  have b1 := c5 xs (taS xs p s (m' + 1)).1 (by rw [t1]; exact Nat.le_refl _) (by omega)
  have b2 := c5 (lessM xs (taS xs p s (m' + 1)).1) (sprM (taS xs p s (m' + 1)).2 xs.length) (by rw [spr_len, less_len]; exact Nat.le_refl _) (by rw [less_len]; omega)
  rw [e]
  rw [show lessM (lessM xs (taS xs p s (m' + 1)).1) (sprM (taS xs p s (m' + 1)).2 xs.length) = taR xs p s (m' + 1) from rfl] at *
  cases f1 : finAllM (taS xs p s (m' + 1)).1
  · repeat' (first | with_reducible refine T.ok_ob ?_ (fun _ => ?_) | with_reducible refine T.ok_ite (fun _ => ?_) (fun _ => ?_) | with_reducible refine T.ok_leaf ?_)
    all_goals first | exact h1 ▸ c1 | exact h2 ▸ c2 | exact h3 ▸ c3 | exact f1 ▸ a1 | exact b1 | exact b2 | exact d4 (m' + 1) | contradiction | omega | rfl | trivial | exact ⟨trivial, by omega, by omega⟩ | exact whole
  cases f2 : finAllM (taS xs p s (m' + 1)).2
  · repeat' (first | with_reducible refine T.ok_ob ?_ (fun _ => ?_) | with_reducible refine T.ok_ite (fun _ => ?_) (fun _ => ?_) | with_reducible refine T.ok_leaf ?_)
    all_goals first | exact h1 ▸ c1 | exact h2 ▸ c2 | exact h3 ▸ c3 | exact f1 ▸ a1 | exact f2 ▸ a2 | exact b1 | exact b2 | exact d4 (m' + 1) | contradiction | omega | rfl | trivial | exact ⟨trivial, by omega, by omega⟩ | exact whole
  cases f3 : finAllM (taR xs p s (m' + 1))
  · repeat' (first | with_reducible refine T.ok_ob ?_ (fun _ => ?_) | with_reducible refine T.ok_ite (fun _ => ?_) (fun _ => ?_) | with_reducible refine T.ok_leaf ?_)
    all_goals first | exact h1 ▸ c1 | exact h2 ▸ c2 | exact h3 ▸ c3 | exact f1 ▸ a1 | exact f2 ▸ a2 | exact f3 ▸ a3 | exact b1 | exact b2 | exact d4 (m' + 1) | contradiction | omega | rfl | trivial | exact ⟨trivial, by omega, by omega⟩ | exact whole
  · repeat' (first | with_reducible refine T.ok_ob ?_ (fun _ => ?_) | with_reducible refine T.ok_ite (fun _ => ?_) (fun _ => ?_) | with_reducible refine T.ok_leaf ?_)
    all_goals first | exact h1 ▸ c1 | exact h2 ▸ c2 | exact h3 ▸ c3 | exact f1 ▸ a1 | exact f2 ▸ a2 | exact f3 ▸ a3 | exact b1 | exact b2 | exact d4 (m' + 1) | contradiction | omega | rfl | trivial | exact ⟨trivial, by omega, by omega⟩ | exact whole

end Go.Proofs.LV
