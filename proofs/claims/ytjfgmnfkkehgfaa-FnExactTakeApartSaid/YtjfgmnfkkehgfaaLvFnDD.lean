/- A series taken apart. -/
import Derived.Test.YtjfgmnfkkehgfaaLvFnI
import Derived.Test.YtjfgmnfkkehgfaaLvFnL
namespace Go.Proofs.LV
open Go
set_option linter.unusedVariables false
set_option linter.unusedSimpArgs false

def sprM (ps : List Nat) (n : Nat) : List Nat := tab n fun i => ps.getD (i % ps.length) 0
/-- the trend and the season after some rounds -/
def taS (xs : List Nat) (per side : Nat) : Nat → List Nat × List Nat
  | 0 => ([], List.replicate per 0)
  | n + 1 => (movM meanM (lessM xs (sprM (taS xs per side n).2 xs.length)) side, seasonM (lessM xs (movM meanM (lessM xs (sprM (taS xs per side n).2 xs.length)) side)) per)
def taR (xs : List Nat) (per side n : Nat) : List Nat := lessM (lessM xs (taS xs per side n).1) (sprM (taS xs per side n).2 xs.length)
def taOk (xs : List Nat) (per side n : Int) : Bool := (seriesM xs && inM per 1 xs.length) && (inM side 0 96 && (inM n 1 8 && (finAllM (taS xs per.toNat side.toNat n.toNat).1 && (finAllM (taS xs per.toNat side.toNat n.toNat).2 && finAllM (taR xs per.toNat side.toNat n.toNat)))))

-- FN impl_less
/-- impl.less: slots 27, results [.t 4]; calls []; names [(a, 0), (b, 1), (a, 2), (b, 3), (out, 5), (i, 6), (x, 7)] -/
def ps_impl_less : List Nat := [0, 1, 4, 5, 6, 7, 9, 10, 11, 12]
def lv_impl_less_L0 : List Nat := [1, 5, 9, 10, 11]
def b_impl_less_L0 : VCode :=
  (.seq
   (.region false [
    ⟨some 12, (.bin .lss), [.t 11, .t 10], none⟩])
   (.seq
    (.cond (.t 12)
     .skip
     (.exit 0))
    (.seq
     (.block 1
      (.seq
       (.region false [
        ⟨some 13, .mv, [.t 11], none⟩,
        ⟨some 14, .iaddr, [.t 9, .t 11], none⟩,
        ⟨some 15, .load, [.t 14], none⟩,
        ⟨some 6, .mv, [.t 13], none⟩,
        ⟨some 7, .mv, [.t 15], none⟩])
       (.region false [
        ⟨some 16, .mv, [.t 5], none⟩,
        ⟨some 17, .mv, [.t 7], none⟩,
        ⟨some 18, .mv, [.t 1], none⟩,
        ⟨some 19, .mv, [.t 6], none⟩,
        ⟨some 20, .iaddr, [.t 18, .t 19], none⟩,
        ⟨some 21, .load, [.t 20], none⟩,
        ⟨some 22, (.bin .sub), [.t 17, .t 21], none⟩,
        ⟨some 23, (.lit true (.f .f32 [])), [.t 22], none⟩,
        ⟨some 24, .app, [.t 16, .t 23], none⟩,
        ⟨some 5, .mv, [.t 24], none⟩])))
     (.region false [
      ⟨some 25, (.bin .add), [.t 11, .k (.i .i64 1)], none⟩,
      ⟨some 11, .mv, [.t 25], none⟩]))))

def b_impl_less : VCode :=
  (.seq
   (.region false [
    ⟨some 4, (.nilsl (.f .f32 [])), [], none⟩])
   (.seq
    (.region false [
     ⟨some 8, (.lit true (.f .f32 [])), [], none⟩,
     ⟨some 5, .mv, [.t 8], none⟩])
    (.seq
     (.seq
      (.region false [
       ⟨some 9, .mv, [.t 0], none⟩,
       ⟨some 10, .len, [.t 9], none⟩,
       ⟨some 11, .mv, [.k (.i .i64 0)], none⟩])
      (.block 0 (.loop b_impl_less_L0)))
     (.seq
      (.region false [
       ⟨some 26, .mv, [.t 5], none⟩,
       ⟨some 4, .mv, [.t 26], none⟩])
      .ret))))

abbrev Is_impl_less (P : Program) (g_f : FuncId) : Prop := FnIs P g_f 27 [.t 4] (b_impl_less)

abbrev C_impl_less (P : Program) (g_f : FuncId) : Prop := ∀ (xs : List Nat) (ys : List Nat) (hy : xs.length ≤ ys.length) (hx : xs.length ≤ 4294967295), VCall P g_f [PS [0] .f32 xs, PS [1] .f32 ys] (OS 0 .f32 (lessM xs ys))
def oc1_impl_less (as : List AV) : T AV := match as with | [.sl _ _ (.f .f32 xs), .sl _ _ (.f .f32 ys)] => .leaf (OS 0 .f32 (lessM xs ys)) | _ => .fail
def h_impl_less_L0 (xs : List Nat) (ys : List Nat) (out : List Nat) (v11 : Int) : Env := [.any, AV.sl (Tag.par [1]) 0 (Cont.f FloatKind.f32 ys), .any, .any, .any, .sl (Tag.own 64) 0 (.f FloatKind.f32 out), .any, .any, .any, AV.sl (Tag.par [0]) 0 (Cont.f FloatKind.f32 xs), AV.i IntKind.i64 (↑(List.length xs) : Int), .i IntKind.i64 v11] ++ anys 15

theorem q_impl_less_L0 {VC : FuncId → List AV → AV → Prop} (xs : List Nat) (ys : List Nat) (out : List Nat) (v11 : Int) {e_ : Ex} {σ_ : Env} (ht : T.ok (fun x_ => x_ = (e_, σ_)) (
      T.ite (decide (v11 < (↑(List.length xs) : Int)))
        (T.ob (0 ≤ v11 ∧ v11 < (↑(List.length xs) : Int))
          (T.ob (0 ≤ v11 ∧ v11 < (↑(List.length ys) : Int))
            (T.ob (List.length out + List.length [fsub FloatKind.f32 (List.getD xs (Int.toNat v11) 0) (List.getD ys (Int.toNat v11) 0)] ≤ 4294967296)
              (T.leaf (Ex.normal, h_impl_less_L0 xs ys (out ++ [fsub FloatKind.f32 (List.getD xs (Int.toNat v11) 0) (List.getD ys (Int.toNat v11) 0)]) (IntKind.wrap IntKind.i64 (v11 + 1)))))))
        (T.leaf (Ex.exit 0, h_impl_less_L0 xs ys out v11)))) :
    Exec VC ps_impl_less (b_impl_less_L0) (h_impl_less_L0 xs ys out v11) e_ σ_ := evL_of (lv := lv_impl_less_L0) (rs := [4]) (O := ⟨fun _ _ => .fail, fun _ _ => none⟩) (by kernel_rfl) ht

theorem q_impl_less {P : Program} {g_f : FuncId} (h_ : Is_impl_less P g_f) (xs : List Nat) (ys : List Nat) (ht : T.ok (fun x_ => x_ = OS 0 .f32 (lessM xs ys)) (
      T.ob (Exec (VCall P) ps_impl_less (VCode.block 0 (VCode.loop b_impl_less_L0)) (h_impl_less_L0 xs ys [] 0) Ex.normal (h_impl_less_L0 xs ys (lessM xs ys) (↑(List.length xs) : Int)))
        (T.leaf (AV.sl (Tag.own 0) 0 (Cont.f FloatKind.f32 (lessM xs ys)))))) :
    VCall P g_f [PS [0] .f32 xs, PS [1] .f32 ys] (OS 0 .f32 (lessM xs ys)) := h_.call_of ps_impl_less ⟨fun _ _ => .fail, fun id σ => match id with | 0 => some (lv_impl_less_L0, .leaf (.normal, h_impl_less_L0 xs ys (lessM xs ys) xs.length)) | _ => none⟩ (by kernel_rfl) ht

-- END impl_less
-- FN impl_TakeApart_1
/-- impl.TakeApart$1: slots 23, results [.t 3]; calls []; names [(out, 4), (i, 5)] -/
def ps_impl_TakeApart_1 : List Nat := [0, 1, 2, 3, 4, 5, 8, 9, 10]
def lv_impl_TakeApart_1_L0 : List Nat := [1, 2, 4, 8, 9]
def b_impl_TakeApart_1_L0 : VCode :=
  (.seq
   (.region false [
    ⟨some 10, (.bin .lss), [.t 9, .t 8], none⟩])
   (.seq
    (.cond (.t 10)
     .skip
     (.exit 0))
    (.seq
     (.block 1
      (.seq
       (.region false [
        ⟨some 11, .mv, [.t 9], none⟩,
        ⟨some 5, .mv, [.t 11], none⟩])
       (.region true [
        ⟨some 12, .mv, [.t 4], none⟩,
        ⟨some 13, .load, [.t 1], none⟩,
        ⟨some 14, .mv, [.t 5], none⟩,
        ⟨some 15, .load, [.t 2], none⟩,
        ⟨some 16, (.bin .rem), [.t 14, .t 15], none⟩,
        ⟨some 17, .iaddr, [.t 13, .t 16], none⟩,
        ⟨some 18, .load, [.t 17], none⟩,
        ⟨some 19, (.lit true (.f .f32 [])), [.t 18], none⟩,
        ⟨some 20, .app, [.t 12, .t 19], none⟩,
        ⟨some 4, .mv, [.t 20], none⟩])))
     (.region false [
      ⟨some 21, (.bin .add), [.t 9, .k (.i .i64 1)], none⟩,
      ⟨some 9, .mv, [.t 21], none⟩]))))

def b_impl_TakeApart_1 : VCode :=
  (.seq
   (.region false [
    ⟨some 3, (.nilsl (.f .f32 [])), [], none⟩])
   (.seq
    (.region false [
     ⟨some 6, (.lit true (.f .f32 [])), [], none⟩,
     ⟨some 4, .mv, [.t 6], none⟩])
    (.seq
     (.seq
      (.region false [
       ⟨some 7, .load, [.t 0], none⟩,
       ⟨some 8, .len, [.t 7], none⟩,
       ⟨some 9, .mv, [.k (.i .i64 0)], none⟩])
      (.block 0 (.loop b_impl_TakeApart_1_L0)))
     (.seq
      (.region false [
       ⟨some 22, .mv, [.t 4], none⟩,
       ⟨some 3, .mv, [.t 22], none⟩])
      .ret))))

abbrev Is_impl_TakeApart_1 (P : Program) (g_f : FuncId) : Prop := FnIs P g_f 23 [.t 3] (b_impl_TakeApart_1)

abbrev C_impl_TakeApart_1 (P : Program) (g_f : FuncId) : Prop := ∀ (xs : List Nat) (ps : List Nat) (per : Int) (hp : per = ps.length ∧ 1 ≤ per) (hx : xs.length ≤ 96), VCall P g_f [.bx (.par [0]) [PS [0, 0] .f32 xs], .bx (.par [1]) [PS [1, 0] .f32 ps], .bx (.par [2]) [.i .i64 per]] (OS 0 .f32 (sprM ps xs.length))
def oc1_impl_TakeApart_1 (as : List AV) : T AV := match as with | [.bx _ [.sl _ _ (.f .f32 xs)], .bx _ [.sl _ _ (.f .f32 ps)], .bx _ [.i .i64 per]] => .leaf (OS 0 .f32 (sprM ps xs.length)) | _ => .fail
def h_impl_TakeApart_1_L0 (xs : List Nat) (ps : List Nat) (per : Int) (out : List Nat) (v9 : Int) : Env := [.any, AV.bx (Tag.par [1]) [AV.sl (Tag.par [1, 0]) 0 (Cont.f FloatKind.f32 ps)], AV.bx (Tag.par [2]) [AV.i IntKind.i64 per], .any, .sl (Tag.own 48) 0 (.f FloatKind.f32 out), .any, .any, .any, AV.i IntKind.i64 (↑(List.length xs) : Int), .i IntKind.i64 v9] ++ anys 13

theorem q_impl_TakeApart_1_L0 {VC : FuncId → List AV → AV → Prop} (xs : List Nat) (ps : List Nat) (per : Int) (out : List Nat) (v9 : Int) {e_ : Ex} {σ_ : Env} (ht : T.ok (fun x_ => x_ = (e_, σ_)) (
      T.ite (decide (v9 < (↑(List.length xs) : Int)))
        (T.ob (per ≠ 0)
          (T.ob (0 ≤ Int.tmod v9 per ∧ Int.tmod v9 per < (↑(List.length ps) : Int))
            (T.ob (List.length out + List.length [List.getD ps (Int.toNat (Int.tmod v9 per)) 0] ≤ 4294967296)
              (T.leaf (Ex.normal, h_impl_TakeApart_1_L0 xs ps per (out ++ [List.getD ps (Int.toNat (Int.tmod v9 per)) 0]) (IntKind.wrap IntKind.i64 (v9 + 1)))))))
        (T.leaf (Ex.exit 0, h_impl_TakeApart_1_L0 xs ps per out v9)))) :
    Exec VC ps_impl_TakeApart_1 (b_impl_TakeApart_1_L0) (h_impl_TakeApart_1_L0 xs ps per out v9) e_ σ_ := evL_of (lv := lv_impl_TakeApart_1_L0) (rs := [3]) (O := ⟨fun _ _ => .fail, fun _ _ => none⟩) (by kernel_rfl) ht

theorem q_impl_TakeApart_1 {P : Program} {g_f : FuncId} (h_ : Is_impl_TakeApart_1 P g_f) (xs : List Nat) (ps : List Nat) (per : Int) (ht : T.ok (fun x_ => x_ = OS 0 .f32 (sprM ps xs.length)) (
      T.ob
        (Exec (VCall P) ps_impl_TakeApart_1 (VCode.block 0 (VCode.loop b_impl_TakeApart_1_L0)) (h_impl_TakeApart_1_L0 xs ps per [] 0) Ex.normal (h_impl_TakeApart_1_L0 xs ps per (sprM ps (List.length xs)) (↑(List.length xs) : Int)))
        (T.leaf (AV.sl (Tag.own 0) 0 (Cont.f FloatKind.f32 (sprM ps (List.length xs))))))) :
    VCall P g_f [.bx (.par [0]) [PS [0, 0] .f32 xs], .bx (.par [1]) [PS [1, 0] .f32 ps], .bx (.par [2]) [.i .i64 per]] (OS 0 .f32 (sprM ps xs.length)) := h_.call_of ps_impl_TakeApart_1 ⟨fun _ _ => .fail, fun id σ => match id with | 0 => some (lv_impl_TakeApart_1_L0, .leaf (.normal, h_impl_TakeApart_1_L0 xs ps per (sprM ps xs.length) xs.length)) | _ => none⟩ (by kernel_rfl) ht

-- END impl_TakeApart_1
-- FN impl_TakeApart
/-- impl.TakeApart: slots 71, results [.t 8, .t 9, .t 10, .t 11]; calls [18:g_impl_isPeriodOf, 22:g_impl_isSide, 27:g_impl_within, 38:VALUE, 39:g_impl_less, 41:g_impl_moving, 44:g_impl_less, 46:g_impl_season, 50:g_impl_less, 52:VALUE, 53:g_impl_less, 55:g_impl_areFinite, 59:g_impl_areFinite, 64:g_impl_areFinite, 69:VALUE]; names [(list, 0), (period, 1), (side, 2), (rounds, 3), (list, 4), (period, 5), (side, 6), (rounds, 7), (parts, 12), (all, 13), (trend, 14), (rest, 15)] -/
def ps_impl_TakeApart : List Nat := [0, 1, 2, 3, 4, 5, 8, 9, 10, 11, 12, 13, 14, 15, 29, 33, 34, 35, 66]
def lv_impl_TakeApart_L0 : List Nat := [2, 4, 5, 12, 13, 14, 33, 34]
def b_impl_TakeApart_L0 (g_impl_isPeriodOf g_impl_isSide g_impl_within g_impl_TakeApart_1 g_impl_less g_impl_moving g_impl_mean g_impl_season g_impl_areFinite : FuncId) : VCode :=
  (.seq
   (.region false [
    ⟨some 35, (.bin .lss), [.t 34, .t 33], none⟩])
   (.seq
    (.cond (.t 35)
     .skip
     (.exit 0))
    (.seq
     (.block 1
      (.seq
       (.region true [
        ⟨some 36, .load, [.t 4], none⟩,
        ⟨some 37, .mv, [.t 13], none⟩,
        ⟨some 38, .callv, [.t 37], none⟩,
        ⟨some 39, (.call g_impl_less), [.t 36, .t 38], none⟩,
        ⟨some 40, .mv, [.t 2], none⟩,
        ⟨some 41, (.call g_impl_moving), [.t 39, .t 40, .k (.fn g_impl_mean [])], none⟩,
        ⟨some 14, .mv, [.t 41], none⟩])
       (.region true [
        ⟨some 42, .load, [.t 4], none⟩,
        ⟨some 43, .mv, [.t 14], none⟩,
        ⟨some 44, (.call g_impl_less), [.t 42, .t 43], none⟩,
        ⟨some 45, .load, [.t 5], none⟩,
        ⟨some 46, (.call g_impl_season), [.t 44, .t 45], none⟩,
        ⟨none, .store, [.t 12, .t 46], none⟩])))
     (.region false [
      ⟨some 47, (.bin .add), [.t 34, .k (.i .i64 1)], none⟩,
      ⟨some 34, .mv, [.t 47], none⟩]))))

def b_impl_TakeApart (g_impl_isPeriodOf g_impl_isSide g_impl_within g_impl_TakeApart_1 g_impl_less g_impl_moving g_impl_mean g_impl_season g_impl_areFinite : FuncId) : VCode :=
  (.seq
   (.region false [
    ⟨some 4, .box, [.t 0], none⟩,
    ⟨some 5, .box, [.t 1], none⟩,
    ⟨some 8, (.nilsl (.f .f32 [])), [], none⟩,
    ⟨some 9, (.nilsl (.f .f32 [])), [], none⟩,
    ⟨some 10, (.nilsl (.f .f32 [])), [], none⟩,
    ⟨some 11, .mv, [.k (.b false)], none⟩])
   (.seq
    (.seq
     (.region false [
      ⟨some 16, .load, [.t 4], none⟩,
      ⟨some 17, .load, [.t 5], none⟩,
      ⟨some 18, (.call g_impl_isPeriodOf), [.t 16, .t 17], none⟩,
      ⟨some 19, .not, [.t 18], none⟩,
      ⟨some 20, .mv, [.t 19], none⟩,
      ⟨some 21, .mv, [.t 2], some (20, false)⟩,
      ⟨some 22, (.call g_impl_isSide), [.t 21], some (20, false)⟩,
      ⟨some 23, .not, [.t 22], some (20, false)⟩,
      ⟨some 24, .pick, [.t 20, .k (.b true), .t 23], none⟩,
      ⟨some 25, .mv, [.t 24], none⟩,
      ⟨some 26, .mv, [.t 3], some (25, false)⟩,
      ⟨some 27, (.call g_impl_within), [.t 26, .k (.i .i64 1), .k (.i .i64 8)], some (25, false)⟩,
      ⟨some 28, .not, [.t 27], some (25, false)⟩,
      ⟨some 29, .pick, [.t 25, .k (.b true), .t 28], none⟩])
     (.cond (.t 29)
      (.seq
       (.region false [
        ⟨some 8, (.nilsl (.f .f32 [])), [], none⟩,
        ⟨some 9, (.nilsl (.f .f32 [])), [], none⟩,
        ⟨some 10, (.nilsl (.f .f32 [])), [], none⟩,
        ⟨some 11, .mv, [.k (.b false)], none⟩])
       .ret)
      .skip))
    (.seq
     (.region false [
      ⟨some 30, .load, [.t 5], none⟩,
      ⟨some 31, (.mksl (.f .f32 0)), [.t 30, .t 30], none⟩,
      ⟨some 12, (.alloc [(.sl .imm 0 (.f .f32 []))]), [], none⟩,
      ⟨none, .store, [.t 12, .t 31], none⟩])
     (.seq
      (.region false [
       ⟨some 32, (.mkfn g_impl_TakeApart_1), [.t 4, .t 12, .t 5], none⟩,
       ⟨some 13, .mv, [.t 32], none⟩])
      (.seq
       (.region false [
        ⟨some 14, (.nilsl (.f .f32 [])), [], none⟩])
       (.seq
        (.seq
         (.region false [
          ⟨some 33, .mv, [.t 3], none⟩,
          ⟨some 34, .mv, [.k (.i .i64 0)], none⟩])
         (.block 0 (.loop (b_impl_TakeApart_L0 g_impl_isPeriodOf g_impl_isSide g_impl_within g_impl_TakeApart_1 g_impl_less g_impl_moving g_impl_mean g_impl_season g_impl_areFinite))))
        (.seq
         (.region false [
          ⟨some 48, .load, [.t 4], none⟩,
          ⟨some 49, .mv, [.t 14], none⟩,
          ⟨some 50, (.call g_impl_less), [.t 48, .t 49], none⟩,
          ⟨some 51, .mv, [.t 13], none⟩,
          ⟨some 52, .callv, [.t 51], none⟩,
          ⟨some 53, (.call g_impl_less), [.t 50, .t 52], none⟩,
          ⟨some 15, .mv, [.t 53], none⟩])
         (.seq
          (.seq
           (.region false [
            ⟨some 54, .mv, [.t 14], none⟩,
            ⟨some 55, (.call g_impl_areFinite), [.t 54], none⟩,
            ⟨some 56, .not, [.t 55], none⟩,
            ⟨some 57, .mv, [.t 56], none⟩,
            ⟨some 58, .load, [.t 12], some (57, false)⟩,
            ⟨some 59, (.call g_impl_areFinite), [.t 58], some (57, false)⟩,
            ⟨some 60, .not, [.t 59], some (57, false)⟩,
            ⟨some 61, .pick, [.t 57, .k (.b true), .t 60], none⟩,
            ⟨some 62, .mv, [.t 61], none⟩,
            ⟨some 63, .mv, [.t 15], some (62, false)⟩,
            ⟨some 64, (.call g_impl_areFinite), [.t 63], some (62, false)⟩,
            ⟨some 65, .not, [.t 64], some (62, false)⟩,
            ⟨some 66, .pick, [.t 62, .k (.b true), .t 65], none⟩])
           (.cond (.t 66)
            (.seq
             (.region false [
              ⟨some 8, (.nilsl (.f .f32 [])), [], none⟩,
              ⟨some 9, (.nilsl (.f .f32 [])), [], none⟩,
              ⟨some 10, (.nilsl (.f .f32 [])), [], none⟩,
              ⟨some 11, .mv, [.k (.b false)], none⟩])
             .ret)
            .skip))
          (.seq
           (.region false [
            ⟨some 67, .mv, [.t 14], none⟩,
            ⟨some 68, .mv, [.t 13], none⟩,
            ⟨some 69, .callv, [.t 68], none⟩,
            ⟨some 70, .mv, [.t 15], none⟩,
            ⟨some 8, .mv, [.t 67], none⟩,
            ⟨some 9, .mv, [.t 69], none⟩,
            ⟨some 10, .mv, [.t 70], none⟩,
            ⟨some 11, .mv, [.k (.b true)], none⟩])
           .ret)))))))))

abbrev Is_impl_TakeApart (P : Program) (g_f : FuncId) (g_impl_isPeriodOf g_impl_isSide g_impl_within g_impl_TakeApart_1 g_impl_less g_impl_moving g_impl_mean g_impl_season g_impl_areFinite : FuncId) : Prop := FnIs P g_f 71 [.t 8, .t 9, .t 10, .t 11] (b_impl_TakeApart g_impl_isPeriodOf g_impl_isSide g_impl_within g_impl_TakeApart_1 g_impl_less g_impl_moving g_impl_mean g_impl_season g_impl_areFinite)

abbrev C_impl_TakeApart (P : Program) (g_f : FuncId) : Prop := ∀ (xs : List Nat) (per : Int) (side : Int) (n : Int) (hx : xs.length ≤ maxLen), VCall P g_f [PS [0] .f32 xs, .i .i64 per, .i .i64 side, .i .i64 n] (.tup [OS 0 .f32 (if taOk xs per side n = true then (taS xs per.toNat side.toNat n.toNat).1 else []), OS 1 .f32 (if taOk xs per side n = true then sprM (taS xs per.toNat side.toNat n.toNat).2 xs.length else []), OS 2 .f32 (if taOk xs per side n = true then taR xs per.toNat side.toNat n.toNat else []), .b (taOk xs per side n)])
def oc1_impl_TakeApart (as : List AV) : T AV := match as with | [.sl _ _ (.f .f32 xs), .i .i64 per, .i .i64 side, .i .i64 n] => .leaf (.tup [OS 0 .f32 (if taOk xs per side n = true then (taS xs per.toNat side.toNat n.toNat).1 else []), OS 1 .f32 (if taOk xs per side n = true then sprM (taS xs per.toNat side.toNat n.toNat).2 xs.length else []), OS 2 .f32 (if taOk xs per side n = true then taR xs per.toNat side.toNat n.toNat else []), .b (taOk xs per side n)]) | _ => .fail
def oc_impl_TakeApart (xs : List Nat) (per : Int) (side : Int) (n : Int) (d : Nat) (as : List AV) : T AV := match d with | 18 => oc1_impl_isPeriodOf as | 22 => oc1_impl_isSide as | 27 => oc1_impl_within as | 38 => (match as with | [.bx _ [.sl _ _ (.f _ u)], .bx _ [.sl _ _ (.f _ v)], _] => .leaf (OS 0 .f32 (sprM v u.length)) | _ => .fail) | 39 => oc1_impl_less as | 41 => (match as with | [.sl _ _ (.f _ u), .i _ v, _] => .leaf (OS 0 .f32 (movM meanM u v.toNat)) | _ => .fail) | 44 => oc1_impl_less as | 46 => oc1_impl_season as | 50 => oc1_impl_less as | 52 => (match as with | [.bx _ [.sl _ _ (.f _ u)], .bx _ [.sl _ _ (.f _ v)], _] => .leaf (OS 0 .f32 (sprM v u.length)) | _ => .fail) | 53 => oc1_impl_less as | 55 => oc1_impl_areFinite as | 59 => oc1_impl_areFinite as | 64 => oc1_impl_areFinite as | 69 => (match as with | [.bx _ [.sl _ _ (.f _ u)], .bx _ [.sl _ _ (.f _ v)], _] => .leaf (OS 0 .f32 (sprM v u.length)) | _ => .fail) | _ => .fail
def h_impl_TakeApart_L0 (g_impl_isPeriodOf g_impl_isSide g_impl_within g_impl_TakeApart_1 g_impl_less g_impl_moving g_impl_mean g_impl_season g_impl_areFinite : FuncId) (xs : List Nat) (per : Int) (side : Int) (n : Int) (list0 : List Nat) (period0 : Int) (parts0 : List Nat) (all00 : List Nat) (all10 : List Nat) (all20 : Int) (trend : List Nat) (v34 : Int) : Env := [.any, .any, AV.i IntKind.i64 side, .any, .bx (Tag.own 32) [.sl (Tag.par [0]) 0 (.f FloatKind.f32 list0)], .bx (Tag.own 40) [.i IntKind.i64 period0]] ++ anys 6 ++ [.bx (Tag.own 96) [.sl (Tag.own 248) 0 (.f FloatKind.f32 parts0)], .fn g_impl_TakeApart_1 [.bx (Tag.own 32) [.sl (Tag.par [0]) 0 (.f FloatKind.f32 all00)], .bx (Tag.own 96) [.sl (Tag.own 248) 0 (.f FloatKind.f32 all10)], .bx (Tag.own 40) [.i IntKind.i64 all20]], .sl (.own 328) 0 (.f FloatKind.f32 trend)] ++ anys 18 ++ [AV.i IntKind.i64 n, .i IntKind.i64 v34] ++ anys 36

theorem q_impl_TakeApart_L0 {VC : FuncId → List AV → AV → Prop} {g_impl_isPeriodOf g_impl_isSide g_impl_within g_impl_TakeApart_1 g_impl_less g_impl_moving g_impl_mean g_impl_season g_impl_areFinite : FuncId} (xs : List Nat) (per : Int) (side : Int) (n : Int) (list0 : List Nat) (period0 : Int) (parts0 : List Nat) (all00 : List Nat) (all10 : List Nat) (all20 : Int) (trend : List Nat) (v34 : Int) {e_ : Ex} {σ_ : Env} (ht : T.ok (fun x_ => x_ = (e_, σ_)) (
      T.ite (decide (v34 < n))
        (T.ob
          (VC g_impl_TakeApart_1
            [AV.bx (Tag.par [0]) [AV.sl (Tag.par [0, 0]) 0 (Cont.f FloatKind.f32 all00)], AV.bx (Tag.par [1]) [AV.sl (Tag.par [1, 0]) 0 (Cont.f FloatKind.f32 all10)], AV.bx (Tag.par [2]) [AV.i IntKind.i64 all20]]
            (AV.sl (Tag.own 0) 0 (Cont.f FloatKind.f32 (sprM all10 (List.length all00)))))
          (T.ob
            (VC g_impl_less [AV.sl (Tag.par [0]) 0 (Cont.f FloatKind.f32 list0), AV.sl (Tag.par [1]) 0 (Cont.f FloatKind.f32 (sprM all10 (List.length all00)))]
              (AV.sl (Tag.own 0) 0 (Cont.f FloatKind.f32 (lessM list0 (sprM all10 (List.length all00))))))
            (T.ob
              (VC g_impl_moving [AV.sl (Tag.par [0]) 0 (Cont.f FloatKind.f32 (lessM list0 (sprM all10 (List.length all00)))), AV.i IntKind.i64 side, AV.fn g_impl_mean []]
                (AV.sl (Tag.own 0) 0 (Cont.f FloatKind.f32 (movM meanM (lessM list0 (sprM all10 (List.length all00))) (Int.toNat side)))))
              (T.ob
                (VC g_impl_less [AV.sl (Tag.par [0]) 0 (Cont.f FloatKind.f32 list0), AV.sl (Tag.par [1]) 0 (Cont.f FloatKind.f32 (movM meanM (lessM list0 (sprM all10 (List.length all00))) (Int.toNat side)))]
                  (AV.sl (Tag.own 0) 0 (Cont.f FloatKind.f32 (lessM list0 (movM meanM (lessM list0 (sprM all10 (List.length all00))) (Int.toNat side))))))
                (T.ob
                  (VC g_impl_season [AV.sl (Tag.par [0]) 0 (Cont.f FloatKind.f32 (lessM list0 (movM meanM (lessM list0 (sprM all10 (List.length all00))) (Int.toNat side)))), AV.i IntKind.i64 period0]
                    (AV.sl (Tag.own 0) 0 (Cont.f FloatKind.f32 (seasonM (lessM list0 (movM meanM (lessM list0 (sprM all10 (List.length all00))) (Int.toNat side))) (Int.toNat period0)))))
                  (T.ob (false = false)
                    (T.leaf
                      (Ex.normal,
                        AV.any ::
                          AV.any ::
                            AV.i IntKind.i64 side ::
                              AV.any ::
                                AV.bx (Tag.own 32) [AV.sl (Tag.par [0]) 0 (Cont.f FloatKind.f32 list0)] ::
                                  AV.bx (Tag.own 40) [AV.i IntKind.i64 period0] ::
                                    (anys 6 ++
                                      AV.bx (Tag.own 96)
                                          [AV.sl (Tag.own 368) 0 (Cont.f FloatKind.f32 (seasonM (lessM list0 (movM meanM (lessM list0 (sprM all10 (List.length all00))) (Int.toNat side))) (Int.toNat period0)))] ::
                                        AV.fn g_impl_TakeApart_1
                                            [AV.bx (Tag.own 32) [AV.sl (Tag.par [0]) 0 (Cont.f FloatKind.f32 all00)],
                                              AV.bx (Tag.own 96)
                                                [AV.sl (Tag.own 368) 0 (Cont.f FloatKind.f32 (seasonM (lessM list0 (movM meanM (lessM list0 (sprM all10 (List.length all00))) (Int.toNat side))) (Int.toNat period0)))],
                                              AV.bx (Tag.own 40) [AV.i IntKind.i64 all20]] ::
                                          AV.sl (Tag.own 328) 0 (Cont.f FloatKind.f32 (movM meanM (lessM list0 (sprM all10 (List.length all00))) (Int.toNat side))) ::
                                            (anys 18 ++ AV.i IntKind.i64 n :: AV.i IntKind.i64 (IntKind.wrap IntKind.i64 (v34 + 1)) :: anys 36))))))))))
        (T.leaf
          (Ex.exit 0,
            h_impl_TakeApart_L0 g_impl_isPeriodOf g_impl_isSide g_impl_within g_impl_TakeApart_1 g_impl_less g_impl_moving g_impl_mean g_impl_season g_impl_areFinite xs per side n list0 period0 parts0 all00 all10 all20 trend
              v34)))) :
    Exec VC ps_impl_TakeApart (b_impl_TakeApart_L0 g_impl_isPeriodOf g_impl_isSide g_impl_within g_impl_TakeApart_1 g_impl_less g_impl_moving g_impl_mean g_impl_season g_impl_areFinite) (h_impl_TakeApart_L0 g_impl_isPeriodOf g_impl_isSide g_impl_within g_impl_TakeApart_1 g_impl_less g_impl_moving g_impl_mean g_impl_season g_impl_areFinite xs per side n list0 period0 parts0 all00 all10 all20 trend v34) e_ σ_ := evL_of (lv := lv_impl_TakeApart_L0) (rs := [8, 9, 10, 11]) (O := ⟨oc_impl_TakeApart xs per side n, fun _ _ => none⟩) (by kernel_rfl) ht

theorem q_impl_TakeApart {P : Program} {g_f : FuncId} {g_impl_isPeriodOf g_impl_isSide g_impl_within g_impl_TakeApart_1 g_impl_less g_impl_moving g_impl_mean g_impl_season g_impl_areFinite : FuncId} (h_ : Is_impl_TakeApart P g_f g_impl_isPeriodOf g_impl_isSide g_impl_within g_impl_TakeApart_1 g_impl_less g_impl_moving g_impl_mean g_impl_season g_impl_areFinite) (xs : List Nat) (per : Int) (side : Int) (n : Int) (ht : T.ok (fun x_ => x_ = .tup [OS 0 .f32 (if taOk xs per side n = true then (taS xs per.toNat side.toNat n.toNat).1 else []), OS 1 .f32 (if taOk xs per side n = true then sprM (taS xs per.toNat side.toNat n.toNat).2 xs.length else []), OS 2 .f32 (if taOk xs per side n = true then taR xs per.toNat side.toNat n.toNat else []), .b (taOk xs per side n)]) (
      T.ob (false = false)
        (T.ob (false = false)
          (T.ob ((VCall P) g_impl_isPeriodOf [AV.sl (Tag.par [0]) 0 (Cont.f FloatKind.f32 xs), AV.i IntKind.i64 per] (AV.b (seriesM xs && inM per 1 (↑(List.length xs) : Int))))
            (T.ite (!(seriesM xs && inM per 1 (↑(List.length xs) : Int)))
              (T.leaf (AV.tup [AV.sl (Tag.own 0) 0 (Cont.f FloatKind.f32 []), AV.sl (Tag.own 1) 0 (Cont.f FloatKind.f32 []), AV.sl (Tag.own 2) 0 (Cont.f FloatKind.f32 []), AV.b false]))
              (T.ob ((VCall P) g_impl_isSide [AV.i IntKind.i64 side] (AV.b (inM side 0 96)))
                (T.ite (!inM side 0 96) (T.leaf (AV.tup [AV.sl (Tag.own 0) 0 (Cont.f FloatKind.f32 []), AV.sl (Tag.own 1) 0 (Cont.f FloatKind.f32 []), AV.sl (Tag.own 2) 0 (Cont.f FloatKind.f32 []), AV.b false]))
                  (T.ob ((VCall P) g_impl_within [AV.i IntKind.i64 n, AV.i IntKind.i64 1, AV.i IntKind.i64 8] (AV.b (inM n 1 8)))
                    (T.ite (!inM n 1 8) (T.leaf (AV.tup [AV.sl (Tag.own 0) 0 (Cont.f FloatKind.f32 []), AV.sl (Tag.own 1) 0 (Cont.f FloatKind.f32 []), AV.sl (Tag.own 2) 0 (Cont.f FloatKind.f32 []), AV.b false]))
                      (T.ob (per = per ∧ 0 ≤ per ∧ per ≤ 4294967296)
                        (T.ob (false = false)
                          (T.ob
                            (Exec (VCall P) ps_impl_TakeApart
                              (VCode.block 0 (VCode.loop (b_impl_TakeApart_L0 g_impl_isPeriodOf g_impl_isSide g_impl_within g_impl_TakeApart_1 g_impl_less g_impl_moving g_impl_mean g_impl_season g_impl_areFinite)))
                              (AV.any ::
                                AV.any ::
                                  AV.i IntKind.i64 side ::
                                    AV.any ::
                                      AV.bx (Tag.own 32) [AV.sl (Tag.par [0]) 0 (Cont.f FloatKind.f32 xs)] ::
                                        AV.bx (Tag.own 40) [AV.i IntKind.i64 per] ::
                                          (anys 6 ++
                                            AV.bx (Tag.own 96) [AV.sl (Tag.own 248) 0 (Cont.f FloatKind.f32 (List.replicate (Int.toNat per) 0))] ::
                                              AV.fn g_impl_TakeApart_1
                                                  [AV.bx (Tag.own 32) [AV.sl (Tag.par [0]) 0 (Cont.f FloatKind.f32 xs)], AV.bx (Tag.own 96) [AV.sl (Tag.own 248) 0 (Cont.f FloatKind.f32 (List.replicate (Int.toNat per) 0))],
                                                    AV.bx (Tag.own 40) [AV.i IntKind.i64 per]] ::
                                                AV.sl Tag.nil 0 (Cont.f FloatKind.f32 []) :: (anys 18 ++ AV.i IntKind.i64 n :: AV.i IntKind.i64 0 :: anys 36)))
                              Ex.normal
                              (h_impl_TakeApart_L0 g_impl_isPeriodOf g_impl_isSide g_impl_within g_impl_TakeApart_1 g_impl_less g_impl_moving g_impl_mean g_impl_season g_impl_areFinite xs per side n xs per
                                (Prod.snd (taS xs (Int.toNat per) (Int.toNat side) (Int.toNat n))) xs (Prod.snd (taS xs (Int.toNat per) (Int.toNat side) (Int.toNat n))) per
                                (Prod.fst (taS xs (Int.toNat per) (Int.toNat side) (Int.toNat n))) n))
                            (T.ob
                              ((VCall P) g_impl_less [AV.sl (Tag.par [0]) 0 (Cont.f FloatKind.f32 xs), AV.sl (Tag.par [1]) 0 (Cont.f FloatKind.f32 (Prod.fst (taS xs (Int.toNat per) (Int.toNat side) (Int.toNat n))))]
                                (AV.sl (Tag.own 0) 0 (Cont.f FloatKind.f32 (lessM xs (Prod.fst (taS xs (Int.toNat per) (Int.toNat side) (Int.toNat n)))))))
                              (T.ob
                                ((VCall P) g_impl_TakeApart_1
                                  [AV.bx (Tag.par [0]) [AV.sl (Tag.par [0, 0]) 0 (Cont.f FloatKind.f32 xs)],
                                    AV.bx (Tag.par [1]) [AV.sl (Tag.par [1, 0]) 0 (Cont.f FloatKind.f32 (Prod.snd (taS xs (Int.toNat per) (Int.toNat side) (Int.toNat n))))], AV.bx (Tag.par [2]) [AV.i IntKind.i64 per]]
                                  (AV.sl (Tag.own 0) 0 (Cont.f FloatKind.f32 (sprM (Prod.snd (taS xs (Int.toNat per) (Int.toNat side) (Int.toNat n))) (List.length xs)))))
                                (T.ob
                                  ((VCall P) g_impl_less
                                    [AV.sl (Tag.par [0]) 0 (Cont.f FloatKind.f32 (lessM xs (Prod.fst (taS xs (Int.toNat per) (Int.toNat side) (Int.toNat n))))),
                                      AV.sl (Tag.par [1]) 0 (Cont.f FloatKind.f32 (sprM (Prod.snd (taS xs (Int.toNat per) (Int.toNat side) (Int.toNat n))) (List.length xs)))]
                                    (AV.sl (Tag.own 0) 0
                                      (Cont.f FloatKind.f32
                                        (lessM (lessM xs (Prod.fst (taS xs (Int.toNat per) (Int.toNat side) (Int.toNat n)))) (sprM (Prod.snd (taS xs (Int.toNat per) (Int.toNat side) (Int.toNat n))) (List.length xs))))))
                                  (T.ob
                                    ((VCall P) g_impl_areFinite [AV.sl (Tag.par [0]) 0 (Cont.f FloatKind.f32 (Prod.fst (taS xs (Int.toNat per) (Int.toNat side) (Int.toNat n))))]
                                      (AV.b (finAllM (Prod.fst (taS xs (Int.toNat per) (Int.toNat side) (Int.toNat n))))))
                                    (T.ite (!finAllM (Prod.fst (taS xs (Int.toNat per) (Int.toNat side) (Int.toNat n))))
                                      (T.leaf (AV.tup [AV.sl (Tag.own 0) 0 (Cont.f FloatKind.f32 []), AV.sl (Tag.own 1) 0 (Cont.f FloatKind.f32 []), AV.sl (Tag.own 2) 0 (Cont.f FloatKind.f32 []), AV.b false]))
                                      (T.ob
                                        ((VCall P) g_impl_areFinite [AV.sl (Tag.par [0]) 0 (Cont.f FloatKind.f32 (Prod.snd (taS xs (Int.toNat per) (Int.toNat side) (Int.toNat n))))]
                                          (AV.b (finAllM (Prod.snd (taS xs (Int.toNat per) (Int.toNat side) (Int.toNat n))))))
                                        (T.ite (!finAllM (Prod.snd (taS xs (Int.toNat per) (Int.toNat side) (Int.toNat n))))
                                          (T.leaf (AV.tup [AV.sl (Tag.own 0) 0 (Cont.f FloatKind.f32 []), AV.sl (Tag.own 1) 0 (Cont.f FloatKind.f32 []), AV.sl (Tag.own 2) 0 (Cont.f FloatKind.f32 []), AV.b false]))
                                          (T.ob
                                            ((VCall P) g_impl_areFinite
                                              [AV.sl (Tag.par [0]) 0
                                                  (Cont.f FloatKind.f32
                                                    (lessM (lessM xs (Prod.fst (taS xs (Int.toNat per) (Int.toNat side) (Int.toNat n))))
                                                      (sprM (Prod.snd (taS xs (Int.toNat per) (Int.toNat side) (Int.toNat n))) (List.length xs))))]
                                              (AV.b
                                                (finAllM
                                                  (lessM (lessM xs (Prod.fst (taS xs (Int.toNat per) (Int.toNat side) (Int.toNat n))))
                                                    (sprM (Prod.snd (taS xs (Int.toNat per) (Int.toNat side) (Int.toNat n))) (List.length xs))))))
                                            (T.ite
                                              (!finAllM
                                                  (lessM (lessM xs (Prod.fst (taS xs (Int.toNat per) (Int.toNat side) (Int.toNat n))))
                                                    (sprM (Prod.snd (taS xs (Int.toNat per) (Int.toNat side) (Int.toNat n))) (List.length xs))))
                                              (T.leaf (AV.tup [AV.sl (Tag.own 0) 0 (Cont.f FloatKind.f32 []), AV.sl (Tag.own 1) 0 (Cont.f FloatKind.f32 []), AV.sl (Tag.own 2) 0 (Cont.f FloatKind.f32 []), AV.b false]))
                                              (T.ob
                                                ((VCall P) g_impl_TakeApart_1
                                                  [AV.bx (Tag.par [0]) [AV.sl (Tag.par [0, 0]) 0 (Cont.f FloatKind.f32 xs)],
                                                    AV.bx (Tag.par [1]) [AV.sl (Tag.par [1, 0]) 0 (Cont.f FloatKind.f32 (Prod.snd (taS xs (Int.toNat per) (Int.toNat side) (Int.toNat n))))],
                                                    AV.bx (Tag.par [2]) [AV.i IntKind.i64 per]]
                                                  (AV.sl (Tag.own 0) 0 (Cont.f FloatKind.f32 (sprM (Prod.snd (taS xs (Int.toNat per) (Int.toNat side) (Int.toNat n))) (List.length xs)))))
                                                (T.leaf
                                                  (AV.tup
                                                    [AV.sl (Tag.own 0) 0 (Cont.f FloatKind.f32 (Prod.fst (taS xs (Int.toNat per) (Int.toNat side) (Int.toNat n)))),
                                                      AV.sl (Tag.own 1) 0 (Cont.f FloatKind.f32 (sprM (Prod.snd (taS xs (Int.toNat per) (Int.toNat side) (Int.toNat n))) (List.length xs))),
                                                      AV.sl (Tag.own 2) 0
                                                        (Cont.f FloatKind.f32
                                                          (lessM (lessM xs (Prod.fst (taS xs (Int.toNat per) (Int.toNat side) (Int.toNat n))))
                                                            (sprM (Prod.snd (taS xs (Int.toNat per) (Int.toNat side) (Int.toNat n))) (List.length xs)))),
                                                      AV.b true])))))))))))))))))))))))) :
    VCall P g_f [PS [0] .f32 xs, .i .i64 per, .i .i64 side, .i .i64 n] (.tup [OS 0 .f32 (if taOk xs per side n = true then (taS xs per.toNat side.toNat n.toNat).1 else []), OS 1 .f32 (if taOk xs per side n = true then sprM (taS xs per.toNat side.toNat n.toNat).2 xs.length else []), OS 2 .f32 (if taOk xs per side n = true then taR xs per.toNat side.toNat n.toNat else []), .b (taOk xs per side n)]) := h_.call_of ps_impl_TakeApart ⟨oc_impl_TakeApart xs per side n, fun id σ => match id with | 0 => some (lv_impl_TakeApart_L0, .leaf (.normal, h_impl_TakeApart_L0 g_impl_isPeriodOf g_impl_isSide g_impl_within g_impl_TakeApart_1 g_impl_less g_impl_moving g_impl_mean g_impl_season g_impl_areFinite xs per side n xs per (taS xs per.toNat side.toNat n.toNat).2 xs (taS xs per.toNat side.toNat n.toNat).2 per (taS xs per.toNat side.toNat n.toNat).1 n)) | _ => none⟩ (by kernel_rfl) ht

-- END impl_TakeApart
-- FN spec_l02Off
/-- spec.l02Off: slots 27, results [.t 4]; calls []; names [(a, 0), (b, 1), (a, 2), (b, 3), (out, 5), (i, 6)] -/
def ps_spec_l02Off : List Nat := [0, 1, 4, 5, 6, 11]
def lv_spec_l02Off_L0 : List Nat := [0, 1, 5, 6]
def b_spec_l02Off_L0 : VCode :=
  (.seq
   (.seq
    (.region false [
     ⟨some 8, .mv, [.t 6], none⟩,
     ⟨some 9, .mv, [.t 0], none⟩,
     ⟨some 10, .len, [.t 9], none⟩,
     ⟨some 11, (.bin .lss), [.t 8, .t 10], none⟩])
    (.cond (.t 11)
     .skip
     (.exit 0)))
   (.seq
    (.block 1
     (.region true [
      ⟨some 14, .mv, [.t 5], none⟩,
      ⟨some 15, .mv, [.t 0], none⟩,
      ⟨some 16, .mv, [.t 6], none⟩,
      ⟨some 17, .iaddr, [.t 15, .t 16], none⟩,
      ⟨some 18, .load, [.t 17], none⟩,
      ⟨some 19, .mv, [.t 1], none⟩,
      ⟨some 20, .mv, [.t 6], none⟩,
      ⟨some 21, .iaddr, [.t 19, .t 20], none⟩,
      ⟨some 22, .load, [.t 21], none⟩,
      ⟨some 23, (.bin .sub), [.t 18, .t 22], none⟩,
      ⟨some 24, (.lit true (.f .f32 [])), [.t 23], none⟩,
      ⟨some 25, .app, [.t 14, .t 24], none⟩,
      ⟨some 5, .mv, [.t 25], none⟩]))
    (.region false [
     ⟨some 12, .mv, [.t 6], none⟩,
     ⟨some 13, (.bin .add), [.t 12, .k (.i .i64 1)], none⟩,
     ⟨some 6, .mv, [.t 13], none⟩])))

def b_spec_l02Off : VCode :=
  (.seq
   (.region false [
    ⟨some 4, (.nilsl (.f .f32 [])), [], none⟩])
   (.seq
    (.region false [
     ⟨some 7, (.lit true (.f .f32 [])), [], none⟩,
     ⟨some 5, .mv, [.t 7], none⟩])
    (.seq
     (.seq
      (.region false [
       ⟨some 6, .mv, [.k (.i .i64 0)], none⟩])
      (.block 0 (.loop b_spec_l02Off_L0)))
     (.seq
      (.region false [
       ⟨some 26, .mv, [.t 5], none⟩,
       ⟨some 4, .mv, [.t 26], none⟩])
      .ret))))

abbrev Is_spec_l02Off (P : Program) (g_f : FuncId) : Prop := FnIs P g_f 27 [.t 4] (b_spec_l02Off)

abbrev C_spec_l02Off (P : Program) (g_f : FuncId) : Prop := ∀ (xs : List Nat) (ys : List Nat) (hy : xs.length ≤ ys.length) (hx : xs.length ≤ 4294967296), VCall P g_f [PS [0] .f32 xs, PS [1] .f32 ys] (OS 0 .f32 (lessM xs ys))
def oc1_spec_l02Off (as : List AV) : T AV := match as with | [.sl _ _ (.f .f32 xs), .sl _ _ (.f .f32 ys)] => .leaf (OS 0 .f32 (lessM xs ys)) | _ => .fail
def h_spec_l02Off_L0 (xs : List Nat) (ys : List Nat) (out : List Nat) (i : Int) : Env := [AV.sl (Tag.par [0]) 0 (Cont.f FloatKind.f32 xs), AV.sl (Tag.par [1]) 0 (Cont.f FloatKind.f32 ys), .any, .any, .any, .sl (Tag.own 56) 0 (.f FloatKind.f32 out), .i IntKind.i64 i] ++ anys 20

theorem q_spec_l02Off_L0 {VC : FuncId → List AV → AV → Prop} (xs : List Nat) (ys : List Nat) (out : List Nat) (i : Int) {e_ : Ex} {σ_ : Env} (ht : T.ok (fun x_ => x_ = (e_, σ_)) (
      T.ite (decide (i < (↑(List.length xs) : Int)))
        (T.ob (0 ≤ i ∧ i < (↑(List.length xs) : Int))
          (T.ob (0 ≤ i ∧ i < (↑(List.length ys) : Int))
            (T.ob (List.length out + List.length [fsub FloatKind.f32 (List.getD xs (Int.toNat i) 0) (List.getD ys (Int.toNat i) 0)] ≤ 4294967296)
              (T.leaf (Ex.normal, h_spec_l02Off_L0 xs ys (out ++ [fsub FloatKind.f32 (List.getD xs (Int.toNat i) 0) (List.getD ys (Int.toNat i) 0)]) (IntKind.wrap IntKind.i64 (i + 1)))))))
        (T.leaf (Ex.exit 0, h_spec_l02Off_L0 xs ys out i)))) :
    Exec VC ps_spec_l02Off (b_spec_l02Off_L0) (h_spec_l02Off_L0 xs ys out i) e_ σ_ := evL_of (lv := lv_spec_l02Off_L0) (rs := [4]) (O := ⟨fun _ _ => .fail, fun _ _ => none⟩) (by kernel_rfl) ht

theorem q_spec_l02Off {P : Program} {g_f : FuncId} (h_ : Is_spec_l02Off P g_f) (xs : List Nat) (ys : List Nat) (ht : T.ok (fun x_ => x_ = OS 0 .f32 (lessM xs ys)) (
      T.ob (Exec (VCall P) ps_spec_l02Off (VCode.block 0 (VCode.loop b_spec_l02Off_L0)) (h_spec_l02Off_L0 xs ys [] 0) Ex.normal (h_spec_l02Off_L0 xs ys (lessM xs ys) (↑(List.length xs) : Int)))
        (T.leaf (AV.sl (Tag.own 0) 0 (Cont.f FloatKind.f32 (lessM xs ys)))))) :
    VCall P g_f [PS [0] .f32 xs, PS [1] .f32 ys] (OS 0 .f32 (lessM xs ys)) := h_.call_of ps_spec_l02Off ⟨fun _ _ => .fail, fun id σ => match id with | 0 => some (lv_spec_l02Off_L0, .leaf (.normal, h_spec_l02Off_L0 xs ys (lessM xs ys) xs.length)) | _ => none⟩ (by kernel_rfl) ht

-- END spec_l02Off
-- FN spec_l02Spreads
/-- spec.l02Spreads: slots 24, results [.t 4]; calls []; names [(season, 0), (n, 1), (season, 2), (n, 3), (out, 5), (i, 6)] -/
def ps_spec_l02Spreads : List Nat := [0, 1, 4, 5, 6, 10]
def lv_spec_l02Spreads_L0 : List Nat := [0, 1, 5, 6]
def b_spec_l02Spreads_L0 : VCode :=
  (.seq
   (.seq
    (.region false [
     ⟨some 8, .mv, [.t 6], none⟩,
     ⟨some 9, .mv, [.t 1], none⟩,
     ⟨some 10, (.bin .lss), [.t 8, .t 9], none⟩])
    (.cond (.t 10)
     .skip
     (.exit 0)))
   (.seq
    (.block 1
     (.region false [
      ⟨some 13, .mv, [.t 5], none⟩,
      ⟨some 14, .mv, [.t 0], none⟩,
      ⟨some 15, .mv, [.t 6], none⟩,
      ⟨some 16, .mv, [.t 0], none⟩,
      ⟨some 17, .len, [.t 16], none⟩,
      ⟨some 18, (.bin .rem), [.t 15, .t 17], none⟩,
      ⟨some 19, .iaddr, [.t 14, .t 18], none⟩,
      ⟨some 20, .load, [.t 19], none⟩,
      ⟨some 21, (.lit true (.f .f32 [])), [.t 20], none⟩,
      ⟨some 22, .app, [.t 13, .t 21], none⟩,
      ⟨some 5, .mv, [.t 22], none⟩]))
    (.region false [
     ⟨some 11, .mv, [.t 6], none⟩,
     ⟨some 12, (.bin .add), [.t 11, .k (.i .i64 1)], none⟩,
     ⟨some 6, .mv, [.t 12], none⟩])))

def b_spec_l02Spreads : VCode :=
  (.seq
   (.region false [
    ⟨some 4, (.nilsl (.f .f32 [])), [], none⟩])
   (.seq
    (.region false [
     ⟨some 7, (.lit true (.f .f32 [])), [], none⟩,
     ⟨some 5, .mv, [.t 7], none⟩])
    (.seq
     (.seq
      (.region false [
       ⟨some 6, .mv, [.k (.i .i64 0)], none⟩])
      (.block 0 (.loop b_spec_l02Spreads_L0)))
     (.seq
      (.region false [
       ⟨some 23, .mv, [.t 5], none⟩,
       ⟨some 4, .mv, [.t 23], none⟩])
      .ret))))

abbrev Is_spec_l02Spreads (P : Program) (g_f : FuncId) : Prop := FnIs P g_f 24 [.t 4] (b_spec_l02Spreads)

abbrev C_spec_l02Spreads (P : Program) (g_f : FuncId) : Prop := ∀ (ps : List Nat) (n : Int) (hp : 1 ≤ ps.length ∧ ps.length ≤ 96) (hn : 0 ≤ n ∧ n ≤ 96), VCall P g_f [PS [0] .f32 ps, .i .i64 n] (OS 0 .f32 (sprM ps n.toNat))
def oc1_spec_l02Spreads (as : List AV) : T AV := match as with | [.sl _ _ (.f .f32 ps), .i .i64 n] => .leaf (OS 0 .f32 (sprM ps n.toNat)) | _ => .fail
def h_spec_l02Spreads_L0 (ps : List Nat) (n : Int) (out : List Nat) (i : Int) : Env := [AV.sl (Tag.par [0]) 0 (Cont.f FloatKind.f32 ps), AV.i IntKind.i64 n, .any, .any, .any, .sl (Tag.own 56) 0 (.f FloatKind.f32 out), .i IntKind.i64 i] ++ anys 17

theorem q_spec_l02Spreads_L0 {VC : FuncId → List AV → AV → Prop} (ps : List Nat) (n : Int) (out : List Nat) (i : Int) {e_ : Ex} {σ_ : Env} (ht : T.ok (fun x_ => x_ = (e_, σ_)) (
      T.ite (decide (i < n))
        (T.ob ((↑(List.length ps) : Int) ≠ 0)
          (T.ob (0 ≤ Int.tmod i (↑(List.length ps) : Int) ∧ Int.tmod i (↑(List.length ps) : Int) < (↑(List.length ps) : Int))
            (T.ob (List.length out + List.length [List.getD ps (Int.toNat (Int.tmod i (↑(List.length ps) : Int))) 0] ≤ 4294967296)
              (T.leaf (Ex.normal, h_spec_l02Spreads_L0 ps n (out ++ [List.getD ps (Int.toNat (Int.tmod i (↑(List.length ps) : Int))) 0]) (IntKind.wrap IntKind.i64 (i + 1)))))))
        (T.leaf (Ex.exit 0, h_spec_l02Spreads_L0 ps n out i)))) :
    Exec VC ps_spec_l02Spreads (b_spec_l02Spreads_L0) (h_spec_l02Spreads_L0 ps n out i) e_ σ_ := evL_of (lv := lv_spec_l02Spreads_L0) (rs := [4]) (O := ⟨fun _ _ => .fail, fun _ _ => none⟩) (by kernel_rfl) ht

theorem q_spec_l02Spreads {P : Program} {g_f : FuncId} (h_ : Is_spec_l02Spreads P g_f) (ps : List Nat) (n : Int) (ht : T.ok (fun x_ => x_ = OS 0 .f32 (sprM ps n.toNat)) (
      T.ob (Exec (VCall P) ps_spec_l02Spreads (VCode.block 0 (VCode.loop b_spec_l02Spreads_L0)) (h_spec_l02Spreads_L0 ps n [] 0) Ex.normal (h_spec_l02Spreads_L0 ps n (sprM ps (Int.toNat n)) n))
        (T.leaf (AV.sl (Tag.own 0) 0 (Cont.f FloatKind.f32 (sprM ps (Int.toNat n))))))) :
    VCall P g_f [PS [0] .f32 ps, .i .i64 n] (OS 0 .f32 (sprM ps n.toNat)) := h_.call_of ps_spec_l02Spreads ⟨fun _ _ => .fail, fun id σ => match id with | 0 => some (lv_spec_l02Spreads_L0, .leaf (.normal, h_spec_l02Spreads_L0 ps n (sprM ps n.toNat) n)) | _ => none⟩ (by kernel_rfl) ht

-- END spec_l02Spreads
-- FN spec_TakeApart
/-- spec.TakeApart: slots 80, results [.t 8, .t 9, .t 10, .t 11]; calls [18:g_spec_l02Series, 24:g_spec_l00In, 29:g_spec_l00In, 34:g_spec_l00In, 49:g_spec_l02Off, 51:g_spec_l02Moving, 54:g_spec_l02Off, 56:g_spec_l02Season, 58:g_spec_l02Spreads, 61:g_spec_l02Off, 63:g_spec_l02Off, 65:g_spec_l02Finite, 69:g_spec_l02Finite, 74:g_spec_l02Finite]; names [(list, 0), (period, 1), (side, 2), (rounds, 3), (list, 4), (period, 5), (side, 6), (rounds, 7), (n, 12), (trend, 13), (season, 14), (t, 15), (rest, 16)] -/
def ps_spec_TakeApart : List Nat := [0, 1, 2, 3, 8, 9, 10, 11, 12, 13, 14, 15, 16, 36, 44, 76]
def lv_spec_TakeApart_L0 : List Nat := [0, 1, 2, 3, 12, 13, 14, 15]
def b_spec_TakeApart_L0 (g_spec_l02Series g_spec_l00In g_spec_l02Off g_spec_l02Moving g_spec_l02Season g_spec_l02Spreads g_spec_l02Finite : FuncId) : VCode :=
  (.seq
   (.seq
    (.region false [
     ⟨some 42, .mv, [.t 15], none⟩,
     ⟨some 43, .mv, [.t 3], none⟩,
     ⟨some 44, (.bin .lss), [.t 42, .t 43], none⟩])
    (.cond (.t 44)
     .skip
     (.exit 0)))
   (.seq
    (.block 1
     (.seq
      (.region false [
       ⟨some 47, .mv, [.t 0], none⟩,
       ⟨some 48, .mv, [.t 14], none⟩,
       ⟨some 49, (.call g_spec_l02Off), [.t 47, .t 48], none⟩,
       ⟨some 50, .mv, [.t 2], none⟩,
       ⟨some 51, (.call g_spec_l02Moving), [.t 49, .t 50], none⟩,
       ⟨some 13, .mv, [.t 51], none⟩])
      (.region false [
       ⟨some 52, .mv, [.t 0], none⟩,
       ⟨some 53, .mv, [.t 13], none⟩,
       ⟨some 54, (.call g_spec_l02Off), [.t 52, .t 53], none⟩,
       ⟨some 55, .mv, [.t 1], none⟩,
       ⟨some 56, (.call g_spec_l02Season), [.t 54, .t 55], none⟩,
       ⟨some 57, .mv, [.t 12], none⟩,
       ⟨some 58, (.call g_spec_l02Spreads), [.t 56, .t 57], none⟩,
       ⟨some 14, .mv, [.t 58], none⟩])))
    (.region false [
     ⟨some 45, .mv, [.t 15], none⟩,
     ⟨some 46, (.bin .add), [.t 45, .k (.i .i64 1)], none⟩,
     ⟨some 15, .mv, [.t 46], none⟩])))

def b_spec_TakeApart (g_spec_l02Series g_spec_l00In g_spec_l02Off g_spec_l02Moving g_spec_l02Season g_spec_l02Spreads g_spec_l02Finite : FuncId) : VCode :=
  (.seq
   (.region false [
    ⟨some 8, (.nilsl (.f .f32 [])), [], none⟩,
    ⟨some 9, (.nilsl (.f .f32 [])), [], none⟩,
    ⟨some 10, (.nilsl (.f .f32 [])), [], none⟩,
    ⟨some 11, .mv, [.k (.b false)], none⟩])
   (.seq
    (.seq
     (.region false [
      ⟨some 17, .mv, [.t 0], none⟩,
      ⟨some 18, (.call g_spec_l02Series), [.t 17], none⟩,
      ⟨some 19, .not, [.t 18], none⟩,
      ⟨some 20, .mv, [.t 19], none⟩,
      ⟨some 21, .mv, [.t 1], some (20, false)⟩,
      ⟨some 22, .mv, [.t 0], some (20, false)⟩,
      ⟨some 23, .len, [.t 22], some (20, false)⟩,
      ⟨some 24, (.call g_spec_l00In), [.t 21, .k (.i .i64 1), .t 23], some (20, false)⟩,
      ⟨some 25, .not, [.t 24], some (20, false)⟩,
      ⟨some 26, .pick, [.t 20, .k (.b true), .t 25], none⟩,
      ⟨some 27, .mv, [.t 26], none⟩,
      ⟨some 28, .mv, [.t 2], some (27, false)⟩,
      ⟨some 29, (.call g_spec_l00In), [.t 28, .k (.i .i64 0), .k (.i .i64 96)], some (27, false)⟩,
      ⟨some 30, .not, [.t 29], some (27, false)⟩,
      ⟨some 31, .pick, [.t 27, .k (.b true), .t 30], none⟩,
      ⟨some 32, .mv, [.t 31], none⟩,
      ⟨some 33, .mv, [.t 3], some (32, false)⟩,
      ⟨some 34, (.call g_spec_l00In), [.t 33, .k (.i .i64 1), .k (.i .i64 8)], some (32, false)⟩,
      ⟨some 35, .not, [.t 34], some (32, false)⟩,
      ⟨some 36, .pick, [.t 32, .k (.b true), .t 35], none⟩])
     (.cond (.t 36)
      (.seq
       (.region false [
        ⟨some 8, (.nilsl (.f .f32 [])), [], none⟩,
        ⟨some 9, (.nilsl (.f .f32 [])), [], none⟩,
        ⟨some 10, (.nilsl (.f .f32 [])), [], none⟩,
        ⟨some 11, .mv, [.k (.b false)], none⟩])
       .ret)
      .skip))
    (.seq
     (.region false [
      ⟨some 37, .mv, [.t 0], none⟩,
      ⟨some 38, .len, [.t 37], none⟩,
      ⟨some 12, .mv, [.t 38], none⟩])
     (.seq
      (.region false [
       ⟨some 39, (.lit true (.f .f32 [])), [], none⟩,
       ⟨some 13, .mv, [.t 39], none⟩])
      (.seq
       (.region false [
        ⟨some 40, .mv, [.t 12], none⟩,
        ⟨some 41, (.mksl (.f .f32 0)), [.t 40, .t 40], none⟩,
        ⟨some 14, .mv, [.t 41], none⟩])
       (.seq
        (.seq
         (.region false [
          ⟨some 15, .mv, [.k (.i .i64 0)], none⟩])
         (.block 0 (.loop (b_spec_TakeApart_L0 g_spec_l02Series g_spec_l00In g_spec_l02Off g_spec_l02Moving g_spec_l02Season g_spec_l02Spreads g_spec_l02Finite))))
        (.seq
         (.region false [
          ⟨some 59, .mv, [.t 0], none⟩,
          ⟨some 60, .mv, [.t 13], none⟩,
          ⟨some 61, (.call g_spec_l02Off), [.t 59, .t 60], none⟩,
          ⟨some 62, .mv, [.t 14], none⟩,
          ⟨some 63, (.call g_spec_l02Off), [.t 61, .t 62], none⟩,
          ⟨some 16, .mv, [.t 63], none⟩])
         (.seq
          (.seq
           (.region false [
            ⟨some 64, .mv, [.t 13], none⟩,
            ⟨some 65, (.call g_spec_l02Finite), [.t 64], none⟩,
            ⟨some 66, .not, [.t 65], none⟩,
            ⟨some 67, .mv, [.t 66], none⟩,
            ⟨some 68, .mv, [.t 14], some (67, false)⟩,
            ⟨some 69, (.call g_spec_l02Finite), [.t 68], some (67, false)⟩,
            ⟨some 70, .not, [.t 69], some (67, false)⟩,
            ⟨some 71, .pick, [.t 67, .k (.b true), .t 70], none⟩,
            ⟨some 72, .mv, [.t 71], none⟩,
            ⟨some 73, .mv, [.t 16], some (72, false)⟩,
            ⟨some 74, (.call g_spec_l02Finite), [.t 73], some (72, false)⟩,
            ⟨some 75, .not, [.t 74], some (72, false)⟩,
            ⟨some 76, .pick, [.t 72, .k (.b true), .t 75], none⟩])
           (.cond (.t 76)
            (.seq
             (.region false [
              ⟨some 8, (.nilsl (.f .f32 [])), [], none⟩,
              ⟨some 9, (.nilsl (.f .f32 [])), [], none⟩,
              ⟨some 10, (.nilsl (.f .f32 [])), [], none⟩,
              ⟨some 11, .mv, [.k (.b false)], none⟩])
             .ret)
            .skip))
          (.seq
           (.region false [
            ⟨some 77, .mv, [.t 13], none⟩,
            ⟨some 78, .mv, [.t 14], none⟩,
            ⟨some 79, .mv, [.t 16], none⟩,
            ⟨some 8, .mv, [.t 77], none⟩,
            ⟨some 9, .mv, [.t 78], none⟩,
            ⟨some 10, .mv, [.t 79], none⟩,
            ⟨some 11, .mv, [.k (.b true)], none⟩])
           .ret)))))))))

abbrev Is_spec_TakeApart (P : Program) (g_f : FuncId) (g_spec_l02Series g_spec_l00In g_spec_l02Off g_spec_l02Moving g_spec_l02Season g_spec_l02Spreads g_spec_l02Finite : FuncId) : Prop := FnIs P g_f 80 [.t 8, .t 9, .t 10, .t 11] (b_spec_TakeApart g_spec_l02Series g_spec_l00In g_spec_l02Off g_spec_l02Moving g_spec_l02Season g_spec_l02Spreads g_spec_l02Finite)

abbrev C_spec_TakeApart (P : Program) (g_f : FuncId) : Prop := ∀ (xs : List Nat) (per : Int) (side : Int) (n : Int) (hx : xs.length ≤ maxLen), VCall P g_f [PS [0] .f32 xs, .i .i64 per, .i .i64 side, .i .i64 n] (.tup [OS 0 .f32 (if taOk xs per side n = true then (taS xs per.toNat side.toNat n.toNat).1 else []), OS 1 .f32 (if taOk xs per side n = true then sprM (taS xs per.toNat side.toNat n.toNat).2 xs.length else []), OS 2 .f32 (if taOk xs per side n = true then taR xs per.toNat side.toNat n.toNat else []), .b (taOk xs per side n)])
def oc1_spec_TakeApart (as : List AV) : T AV := match as with | [.sl _ _ (.f .f32 xs), .i .i64 per, .i .i64 side, .i .i64 n] => .leaf (.tup [OS 0 .f32 (if taOk xs per side n = true then (taS xs per.toNat side.toNat n.toNat).1 else []), OS 1 .f32 (if taOk xs per side n = true then sprM (taS xs per.toNat side.toNat n.toNat).2 xs.length else []), OS 2 .f32 (if taOk xs per side n = true then taR xs per.toNat side.toNat n.toNat else []), .b (taOk xs per side n)]) | _ => .fail
def oc_spec_TakeApart (xs : List Nat) (per : Int) (side : Int) (n : Int) (d : Nat) (as : List AV) : T AV := match d with | 18 => oc1_spec_l02Series as | 24 => oc1_spec_l00In as | 29 => oc1_spec_l00In as | 34 => oc1_spec_l00In as | 49 => oc1_spec_l02Off as | 51 => oc1_spec_l02Moving as | 54 => oc1_spec_l02Off as | 56 => oc1_spec_l02Season as | 58 => oc1_spec_l02Spreads as | 61 => oc1_spec_l02Off as | 63 => oc1_spec_l02Off as | 65 => oc1_spec_l02Finite as | 69 => oc1_spec_l02Finite as | 74 => oc1_spec_l02Finite as | _ => .fail
def h_spec_TakeApart_L0 (xs : List Nat) (per : Int) (side : Int) (n : Int) (trend : List Nat) (season : List Nat) (t : Int) : Env := [AV.sl (Tag.par [0]) 0 (Cont.f FloatKind.f32 xs), AV.i IntKind.i64 per, AV.i IntKind.i64 side, AV.i IntKind.i64 n] ++ anys 8 ++ [AV.i IntKind.i64 (↑(List.length xs) : Int), .sl (Tag.own 312) 0 (.f FloatKind.f32 trend), .sl (Tag.own 328) 0 (.f FloatKind.f32 season), .i IntKind.i64 t] ++ anys 64

theorem q_spec_TakeApart_L0 {VC : FuncId → List AV → AV → Prop} {g_spec_l02Series g_spec_l00In g_spec_l02Off g_spec_l02Moving g_spec_l02Season g_spec_l02Spreads g_spec_l02Finite : FuncId} (xs : List Nat) (per : Int) (side : Int) (n : Int) (trend : List Nat) (season : List Nat) (t : Int) {e_ : Ex} {σ_ : Env} (ht : T.ok (fun x_ => x_ = (e_, σ_)) (
      T.ite (decide (t < n))
        (T.ob (VC g_spec_l02Off [AV.sl (Tag.par [0]) 0 (Cont.f FloatKind.f32 xs), AV.sl (Tag.par [1]) 0 (Cont.f FloatKind.f32 season)] (AV.sl (Tag.own 0) 0 (Cont.f FloatKind.f32 (lessM xs season))))
          (T.ob (VC g_spec_l02Moving [AV.sl (Tag.par [0]) 0 (Cont.f FloatKind.f32 (lessM xs season)), AV.i IntKind.i64 side] (AV.sl (Tag.own 0) 0 (Cont.f FloatKind.f32 (movM meanM (lessM xs season) (Int.toNat side)))))
            (T.ob
              (VC g_spec_l02Off [AV.sl (Tag.par [0]) 0 (Cont.f FloatKind.f32 xs), AV.sl (Tag.par [1]) 0 (Cont.f FloatKind.f32 (movM meanM (lessM xs season) (Int.toNat side)))]
                (AV.sl (Tag.own 0) 0 (Cont.f FloatKind.f32 (lessM xs (movM meanM (lessM xs season) (Int.toNat side))))))
              (T.ob
                (VC g_spec_l02Season [AV.sl (Tag.par [0]) 0 (Cont.f FloatKind.f32 (lessM xs (movM meanM (lessM xs season) (Int.toNat side)))), AV.i IntKind.i64 per]
                  (AV.sl (Tag.own 0) 0 (Cont.f FloatKind.f32 (seasonM (lessM xs (movM meanM (lessM xs season) (Int.toNat side))) (Int.toNat per)))))
                (T.ob
                  (VC g_spec_l02Spreads [AV.sl (Tag.par [0]) 0 (Cont.f FloatKind.f32 (seasonM (lessM xs (movM meanM (lessM xs season) (Int.toNat side))) (Int.toNat per))), AV.i IntKind.i64 (↑(List.length xs) : Int)]
                    (AV.sl (Tag.own 0) 0 (Cont.f FloatKind.f32 (sprM (seasonM (lessM xs (movM meanM (lessM xs season) (Int.toNat side))) (Int.toNat per)) (Int.toNat (↑(List.length xs) : Int))))))
                  (T.leaf
                    (Ex.normal,
                      AV.sl (Tag.par [0]) 0 (Cont.f FloatKind.f32 xs) ::
                        AV.i IntKind.i64 per ::
                          AV.i IntKind.i64 side ::
                            AV.i IntKind.i64 n ::
                              (anys 8 ++
                                AV.i IntKind.i64 (↑(List.length xs) : Int) ::
                                  AV.sl (Tag.own 408) 0 (Cont.f FloatKind.f32 (movM meanM (lessM xs season) (Int.toNat side))) ::
                                    AV.sl (Tag.own 464) 0 (Cont.f FloatKind.f32 (sprM (seasonM (lessM xs (movM meanM (lessM xs season) (Int.toNat side))) (Int.toNat per)) (Int.toNat (↑(List.length xs) : Int)))) ::
                                      AV.i IntKind.i64 (IntKind.wrap IntKind.i64 (t + 1)) :: anys 64))))))))
        (T.leaf (Ex.exit 0, h_spec_TakeApart_L0 xs per side n trend season t)))) :
    Exec VC ps_spec_TakeApart (b_spec_TakeApart_L0 g_spec_l02Series g_spec_l00In g_spec_l02Off g_spec_l02Moving g_spec_l02Season g_spec_l02Spreads g_spec_l02Finite) (h_spec_TakeApart_L0 xs per side n trend season t) e_ σ_ := evL_of (lv := lv_spec_TakeApart_L0) (rs := [8, 9, 10, 11]) (O := ⟨oc_spec_TakeApart xs per side n, fun _ _ => none⟩) (by kernel_rfl) ht

theorem q_spec_TakeApart {P : Program} {g_f : FuncId} {g_spec_l02Series g_spec_l00In g_spec_l02Off g_spec_l02Moving g_spec_l02Season g_spec_l02Spreads g_spec_l02Finite : FuncId} (h_ : Is_spec_TakeApart P g_f g_spec_l02Series g_spec_l00In g_spec_l02Off g_spec_l02Moving g_spec_l02Season g_spec_l02Spreads g_spec_l02Finite) (xs : List Nat) (per : Int) (side : Int) (n : Int) (ht : T.ok (fun x_ => x_ = .tup [OS 0 .f32 (if taOk xs per side n = true then (taS xs per.toNat side.toNat n.toNat).1 else []), OS 1 .f32 (if taOk xs per side n = true then sprM (taS xs per.toNat side.toNat n.toNat).2 xs.length else []), OS 2 .f32 (if taOk xs per side n = true then taR xs per.toNat side.toNat n.toNat else []), .b (taOk xs per side n)]) (
      T.ob ((VCall P) g_spec_l02Series [AV.sl (Tag.par [0]) 0 (Cont.f FloatKind.f32 xs)] (AV.b (seriesM xs)))
        (T.ite (!seriesM xs) (T.leaf (AV.tup [AV.sl (Tag.own 0) 0 (Cont.f FloatKind.f32 []), AV.sl (Tag.own 1) 0 (Cont.f FloatKind.f32 []), AV.sl (Tag.own 2) 0 (Cont.f FloatKind.f32 []), AV.b false]))
          (T.ob ((VCall P) g_spec_l00In [AV.i IntKind.i64 per, AV.i IntKind.i64 1, AV.i IntKind.i64 (↑(List.length xs) : Int)] (AV.b (inM per 1 (↑(List.length xs) : Int))))
            (T.ite (!inM per 1 (↑(List.length xs) : Int))
              (T.leaf (AV.tup [AV.sl (Tag.own 0) 0 (Cont.f FloatKind.f32 []), AV.sl (Tag.own 1) 0 (Cont.f FloatKind.f32 []), AV.sl (Tag.own 2) 0 (Cont.f FloatKind.f32 []), AV.b false]))
              (T.ob ((VCall P) g_spec_l00In [AV.i IntKind.i64 side, AV.i IntKind.i64 0, AV.i IntKind.i64 96] (AV.b (inM side 0 96)))
                (T.ite (!inM side 0 96) (T.leaf (AV.tup [AV.sl (Tag.own 0) 0 (Cont.f FloatKind.f32 []), AV.sl (Tag.own 1) 0 (Cont.f FloatKind.f32 []), AV.sl (Tag.own 2) 0 (Cont.f FloatKind.f32 []), AV.b false]))
                  (T.ob ((VCall P) g_spec_l00In [AV.i IntKind.i64 n, AV.i IntKind.i64 1, AV.i IntKind.i64 8] (AV.b (inM n 1 8)))
                    (T.ite (!inM n 1 8) (T.leaf (AV.tup [AV.sl (Tag.own 0) 0 (Cont.f FloatKind.f32 []), AV.sl (Tag.own 1) 0 (Cont.f FloatKind.f32 []), AV.sl (Tag.own 2) 0 (Cont.f FloatKind.f32 []), AV.b false]))
                      (T.ob ((↑(List.length xs) : Int) = (↑(List.length xs) : Int) ∧ 0 ≤ (↑(List.length xs) : Int) ∧ (↑(List.length xs) : Int) ≤ 4294967296)
                        (T.ob
                          (Exec (VCall P) ps_spec_TakeApart (VCode.block 0 (VCode.loop (b_spec_TakeApart_L0 g_spec_l02Series g_spec_l00In g_spec_l02Off g_spec_l02Moving g_spec_l02Season g_spec_l02Spreads g_spec_l02Finite)))
                            (h_spec_TakeApart_L0 xs per side n [] (List.replicate (Int.toNat (↑(List.length xs) : Int)) 0) 0) Ex.normal
                            (h_spec_TakeApart_L0 xs per side n (Prod.fst (taS xs (Int.toNat per) (Int.toNat side) (Int.toNat n))) (sprM (Prod.snd (taS xs (Int.toNat per) (Int.toNat side) (Int.toNat n))) (List.length xs)) n))
                          (T.ob
                            ((VCall P) g_spec_l02Off [AV.sl (Tag.par [0]) 0 (Cont.f FloatKind.f32 xs), AV.sl (Tag.par [1]) 0 (Cont.f FloatKind.f32 (Prod.fst (taS xs (Int.toNat per) (Int.toNat side) (Int.toNat n))))]
                              (AV.sl (Tag.own 0) 0 (Cont.f FloatKind.f32 (lessM xs (Prod.fst (taS xs (Int.toNat per) (Int.toNat side) (Int.toNat n)))))))
                            (T.ob
                              ((VCall P) g_spec_l02Off
                                [AV.sl (Tag.par [0]) 0 (Cont.f FloatKind.f32 (lessM xs (Prod.fst (taS xs (Int.toNat per) (Int.toNat side) (Int.toNat n))))),
                                  AV.sl (Tag.par [1]) 0 (Cont.f FloatKind.f32 (sprM (Prod.snd (taS xs (Int.toNat per) (Int.toNat side) (Int.toNat n))) (List.length xs)))]
                                (AV.sl (Tag.own 0) 0
                                  (Cont.f FloatKind.f32
                                    (lessM (lessM xs (Prod.fst (taS xs (Int.toNat per) (Int.toNat side) (Int.toNat n)))) (sprM (Prod.snd (taS xs (Int.toNat per) (Int.toNat side) (Int.toNat n))) (List.length xs))))))
                              (T.ob
                                ((VCall P) g_spec_l02Finite [AV.sl (Tag.par [0]) 0 (Cont.f FloatKind.f32 (Prod.fst (taS xs (Int.toNat per) (Int.toNat side) (Int.toNat n))))]
                                  (AV.b (finAllM (Prod.fst (taS xs (Int.toNat per) (Int.toNat side) (Int.toNat n))))))
                                (T.ite (!finAllM (Prod.fst (taS xs (Int.toNat per) (Int.toNat side) (Int.toNat n))))
                                  (T.leaf (AV.tup [AV.sl (Tag.own 0) 0 (Cont.f FloatKind.f32 []), AV.sl (Tag.own 1) 0 (Cont.f FloatKind.f32 []), AV.sl (Tag.own 2) 0 (Cont.f FloatKind.f32 []), AV.b false]))
                                  (T.ob
                                    ((VCall P) g_spec_l02Finite [AV.sl (Tag.par [0]) 0 (Cont.f FloatKind.f32 (sprM (Prod.snd (taS xs (Int.toNat per) (Int.toNat side) (Int.toNat n))) (List.length xs)))]
                                      (AV.b (finAllM (sprM (Prod.snd (taS xs (Int.toNat per) (Int.toNat side) (Int.toNat n))) (List.length xs)))))
                                    (T.ite (!finAllM (sprM (Prod.snd (taS xs (Int.toNat per) (Int.toNat side) (Int.toNat n))) (List.length xs)))
                                      (T.leaf (AV.tup [AV.sl (Tag.own 0) 0 (Cont.f FloatKind.f32 []), AV.sl (Tag.own 1) 0 (Cont.f FloatKind.f32 []), AV.sl (Tag.own 2) 0 (Cont.f FloatKind.f32 []), AV.b false]))
                                      (T.ob
                                        ((VCall P) g_spec_l02Finite
                                          [AV.sl (Tag.par [0]) 0
                                              (Cont.f FloatKind.f32
                                                (lessM (lessM xs (Prod.fst (taS xs (Int.toNat per) (Int.toNat side) (Int.toNat n)))) (sprM (Prod.snd (taS xs (Int.toNat per) (Int.toNat side) (Int.toNat n))) (List.length xs))))]
                                          (AV.b
                                            (finAllM
                                              (lessM (lessM xs (Prod.fst (taS xs (Int.toNat per) (Int.toNat side) (Int.toNat n)))) (sprM (Prod.snd (taS xs (Int.toNat per) (Int.toNat side) (Int.toNat n))) (List.length xs))))))
                                        (T.ite
                                          (!finAllM
                                              (lessM (lessM xs (Prod.fst (taS xs (Int.toNat per) (Int.toNat side) (Int.toNat n)))) (sprM (Prod.snd (taS xs (Int.toNat per) (Int.toNat side) (Int.toNat n))) (List.length xs))))
                                          (T.leaf (AV.tup [AV.sl (Tag.own 0) 0 (Cont.f FloatKind.f32 []), AV.sl (Tag.own 1) 0 (Cont.f FloatKind.f32 []), AV.sl (Tag.own 2) 0 (Cont.f FloatKind.f32 []), AV.b false]))
                                          (T.leaf
                                            (AV.tup
                                              [AV.sl (Tag.own 0) 0 (Cont.f FloatKind.f32 (Prod.fst (taS xs (Int.toNat per) (Int.toNat side) (Int.toNat n)))),
                                                AV.sl (Tag.own 1) 0 (Cont.f FloatKind.f32 (sprM (Prod.snd (taS xs (Int.toNat per) (Int.toNat side) (Int.toNat n))) (List.length xs))),
                                                AV.sl (Tag.own 2) 0
                                                  (Cont.f FloatKind.f32
                                                    (lessM (lessM xs (Prod.fst (taS xs (Int.toNat per) (Int.toNat side) (Int.toNat n))))
                                                      (sprM (Prod.snd (taS xs (Int.toNat per) (Int.toNat side) (Int.toNat n))) (List.length xs)))),
                                                AV.b true]))))))))))))))))))))) :
    VCall P g_f [PS [0] .f32 xs, .i .i64 per, .i .i64 side, .i .i64 n] (.tup [OS 0 .f32 (if taOk xs per side n = true then (taS xs per.toNat side.toNat n.toNat).1 else []), OS 1 .f32 (if taOk xs per side n = true then sprM (taS xs per.toNat side.toNat n.toNat).2 xs.length else []), OS 2 .f32 (if taOk xs per side n = true then taR xs per.toNat side.toNat n.toNat else []), .b (taOk xs per side n)]) := h_.call_of ps_spec_TakeApart ⟨oc_spec_TakeApart xs per side n, fun id σ => match id with | 0 => some (lv_spec_TakeApart_L0, .leaf (.normal, h_spec_TakeApart_L0 xs per side n (taS xs per.toNat side.toNat n.toNat).1 (sprM (taS xs per.toNat side.toNat n.toNat).2 xs.length) n)) | _ => none⟩ (by kernel_rfl) ht

-- END spec_TakeApart

/-- the loop's head ahead of the first round -/
def h_ta_nil (g_impl_isPeriodOf g_impl_isSide g_impl_within g_impl_TakeApart_1 g_impl_less g_impl_moving g_impl_mean g_impl_season g_impl_areFinite : FuncId) (xs : List Nat) (per : Int) (side : Int) (n : Int) (list0 : List Nat) (period0 : Int) (parts0 : List Nat) (all00 : List Nat) (all10 : List Nat) (all20 : Int) (trend : List Nat) (v34 : Int) : Env := [.any, .any, AV.i IntKind.i64 side, .any, .bx (Tag.own 32) [.sl (Tag.par [0]) 0 (.f FloatKind.f32 list0)], .bx (Tag.own 40) [.i IntKind.i64 period0]] ++ anys 6 ++ [.bx (Tag.own 96) [.sl (Tag.own 248) 0 (.f FloatKind.f32 parts0)], .fn g_impl_TakeApart_1 [.bx (Tag.own 32) [.sl (Tag.par [0]) 0 (.f FloatKind.f32 all00)], .bx (Tag.own 96) [.sl (Tag.own 248) 0 (.f FloatKind.f32 all10)], .bx (Tag.own 40) [.i IntKind.i64 all20]], .sl .nil 0 (.f FloatKind.f32 [])] ++ anys 18 ++ [AV.i IntKind.i64 n, .i IntKind.i64 v34] ++ anys 36
theorem l_ta_nil {VC : FuncId → List AV → AV → Prop} {g_impl_isPeriodOf g_impl_isSide g_impl_within g_impl_TakeApart_1 g_impl_less g_impl_moving g_impl_mean g_impl_season g_impl_areFinite : FuncId} (xs : List Nat) (per : Int) (side : Int) (n : Int) (list0 : List Nat) (period0 : Int) (parts0 : List Nat) (all00 : List Nat) (all10 : List Nat) (all20 : Int) (trend : List Nat) (v34 : Int) {e_ : Ex} {σ_ : Env} (ht : T.ok (fun x_ => x_ = (e_, σ_)) (
      T.ite (decide (v34 < n))
        (T.ob
          (VC g_impl_TakeApart_1
            [AV.bx (Tag.par [0]) [AV.sl (Tag.par [0, 0]) 0 (Cont.f FloatKind.f32 all00)], AV.bx (Tag.par [1]) [AV.sl (Tag.par [1, 0]) 0 (Cont.f FloatKind.f32 all10)], AV.bx (Tag.par [2]) [AV.i IntKind.i64 all20]]
            (AV.sl (Tag.own 0) 0 (Cont.f FloatKind.f32 (sprM all10 (List.length all00)))))
          (T.ob
            (VC g_impl_less [AV.sl (Tag.par [0]) 0 (Cont.f FloatKind.f32 list0), AV.sl (Tag.par [1]) 0 (Cont.f FloatKind.f32 (sprM all10 (List.length all00)))]
              (AV.sl (Tag.own 0) 0 (Cont.f FloatKind.f32 (lessM list0 (sprM all10 (List.length all00))))))
            (T.ob
              (VC g_impl_moving [AV.sl (Tag.par [0]) 0 (Cont.f FloatKind.f32 (lessM list0 (sprM all10 (List.length all00)))), AV.i IntKind.i64 side, AV.fn g_impl_mean []]
                (AV.sl (Tag.own 0) 0 (Cont.f FloatKind.f32 (movM meanM (lessM list0 (sprM all10 (List.length all00))) (Int.toNat side)))))
              (T.ob
                (VC g_impl_less [AV.sl (Tag.par [0]) 0 (Cont.f FloatKind.f32 list0), AV.sl (Tag.par [1]) 0 (Cont.f FloatKind.f32 (movM meanM (lessM list0 (sprM all10 (List.length all00))) (Int.toNat side)))]
                  (AV.sl (Tag.own 0) 0 (Cont.f FloatKind.f32 (lessM list0 (movM meanM (lessM list0 (sprM all10 (List.length all00))) (Int.toNat side))))))
                (T.ob
                  (VC g_impl_season [AV.sl (Tag.par [0]) 0 (Cont.f FloatKind.f32 (lessM list0 (movM meanM (lessM list0 (sprM all10 (List.length all00))) (Int.toNat side)))), AV.i IntKind.i64 period0]
                    (AV.sl (Tag.own 0) 0 (Cont.f FloatKind.f32 (seasonM (lessM list0 (movM meanM (lessM list0 (sprM all10 (List.length all00))) (Int.toNat side))) (Int.toNat period0)))))
                  (T.ob (false = false)
                    (T.leaf
                      (Ex.normal,
                        AV.any ::
                          AV.any ::
                            AV.i IntKind.i64 side ::
                              AV.any ::
                                AV.bx (Tag.own 32) [AV.sl (Tag.par [0]) 0 (Cont.f FloatKind.f32 list0)] ::
                                  AV.bx (Tag.own 40) [AV.i IntKind.i64 period0] ::
                                    (anys 6 ++
                                      AV.bx (Tag.own 96)
                                          [AV.sl (Tag.own 368) 0 (Cont.f FloatKind.f32 (seasonM (lessM list0 (movM meanM (lessM list0 (sprM all10 (List.length all00))) (Int.toNat side))) (Int.toNat period0)))] ::
                                        AV.fn g_impl_TakeApart_1
                                            [AV.bx (Tag.own 32) [AV.sl (Tag.par [0]) 0 (Cont.f FloatKind.f32 all00)],
                                              AV.bx (Tag.own 96)
                                                [AV.sl (Tag.own 368) 0 (Cont.f FloatKind.f32 (seasonM (lessM list0 (movM meanM (lessM list0 (sprM all10 (List.length all00))) (Int.toNat side))) (Int.toNat period0)))],
                                              AV.bx (Tag.own 40) [AV.i IntKind.i64 all20]] ::
                                          AV.sl (Tag.own 328) 0 (Cont.f FloatKind.f32 (movM meanM (lessM list0 (sprM all10 (List.length all00))) (Int.toNat side))) ::
                                            (anys 18 ++ AV.i IntKind.i64 n :: AV.i IntKind.i64 (IntKind.wrap IntKind.i64 (v34 + 1)) :: anys 36))))))))))
        (T.leaf
          (Ex.exit 0,
            h_ta_nil g_impl_isPeriodOf g_impl_isSide g_impl_within g_impl_TakeApart_1 g_impl_less g_impl_moving g_impl_mean g_impl_season g_impl_areFinite xs per side n list0 period0 parts0 all00 all10 all20 trend v34)))) :
    Exec VC ps_impl_TakeApart (b_impl_TakeApart_L0 g_impl_isPeriodOf g_impl_isSide g_impl_within g_impl_TakeApart_1 g_impl_less g_impl_moving g_impl_mean g_impl_season g_impl_areFinite) (h_ta_nil g_impl_isPeriodOf g_impl_isSide g_impl_within g_impl_TakeApart_1 g_impl_less g_impl_moving g_impl_mean g_impl_season g_impl_areFinite xs per side n list0 period0 parts0 all00 all10 all20 trend v34) e_ σ_ := evL_of (lv := lv_impl_TakeApart_L0) (rs := [8, 9, 10, 11]) (O := ⟨oc_impl_TakeApart xs per side n, fun _ _ => none⟩) (by kernel_rfl) ht
theorem spr_len (ps : List Nat) (n : Nat) : (sprM ps n).length = n := tab_len _ _
theorem k_impl_less {P : Program} {f : FuncId} (h : Is_impl_less P f) : C_impl_less P f := by
  intro xs ys hy hx
  refine q_impl_less h xs ys ⟨?_, fun _ => rfl⟩
  refine for_up (e := .exit 0) (xs.length) (fun i => h_impl_less_L0 xs ys (tab i fun i => fsub .f32 (xs.getD i 0) (ys.getD i 0)) i) (by first | rfl | simp) (fun i hi => ?_) ?_
  · refine q_impl_less_L0 _ _ _ _ ?_
    repeat' (first | with_reducible refine T.ok_ob ?_ (fun _ => ?_) | with_reducible refine T.ok_ite (fun _ => ?_) (fun _ => ?_) | with_reducible refine T.ok_leaf ?_)
    all_goals (try simp only [decide_eq_true_eq, decide_eq_false_iff_not, Bool.not_eq_true', Bool.not_eq_false', Bool.not_eq_eq_eq_not, Bool.not_true, Bool.not_false, Int.toNat_natCast, tab_len, List.length_append, List.length_singleton, List.length_cons, List.length_nil, List.length_drop, List.length_take, getD_drop', getD_nat, reduceCtorEq] at *)
    all_goals (try simp (disch := omega) only [wrap64_id] at *)
    all_goals first | omega | (exfalso; omega) | trivial | contradiction | (exfalso; simp_all; done) | skip
    all_goals first | rfl | (rw [tab_succ]; rfl)
  · refine q_impl_less_L0 _ _ _ _ ?_
    repeat' (first | with_reducible refine T.ok_ob ?_ (fun _ => ?_) | with_reducible refine T.ok_ite (fun _ => ?_) (fun _ => ?_) | with_reducible refine T.ok_leaf ?_)
    all_goals (try simp only [decide_eq_true_eq, decide_eq_false_iff_not, Bool.not_eq_true', Bool.not_eq_false', Bool.not_eq_eq_eq_not, Bool.not_true, Bool.not_false, Int.toNat_natCast, tab_len, List.length_append, List.length_singleton, List.length_cons, List.length_nil, List.length_drop, List.length_take, getD_drop', getD_nat, reduceCtorEq] at *)
    all_goals (try simp (disch := omega) only [wrap64_id] at *)
    all_goals first | omega | (exfalso; omega) | trivial | contradiction | (exfalso; simp_all; done) | skip
    all_goals rfl
theorem k_spec_l02Off {P : Program} {f : FuncId} (h : Is_spec_l02Off P f) : C_spec_l02Off P f := by
  intro xs ys hy hx
  refine q_spec_l02Off h xs ys ⟨?_, fun _ => rfl⟩
  refine for_up (e := .exit 0) (xs.length) (fun i => h_spec_l02Off_L0 xs ys (tab i fun i => fsub .f32 (xs.getD i 0) (ys.getD i 0)) i) (by first | rfl | simp) (fun i hi => ?_) ?_
  · refine q_spec_l02Off_L0 _ _ _ _ ?_
    repeat' (first | with_reducible refine T.ok_ob ?_ (fun _ => ?_) | with_reducible refine T.ok_ite (fun _ => ?_) (fun _ => ?_) | with_reducible refine T.ok_leaf ?_)
    all_goals (try simp only [decide_eq_true_eq, decide_eq_false_iff_not, Bool.not_eq_true', Bool.not_eq_false', Bool.not_eq_eq_eq_not, Bool.not_true, Bool.not_false, Int.toNat_natCast, tab_len, List.length_append, List.length_singleton, List.length_cons, List.length_nil, List.length_drop, List.length_take, getD_drop', getD_nat, reduceCtorEq] at *)
    all_goals (try simp (disch := omega) only [wrap64_id] at *)
    all_goals first | omega | (exfalso; omega) | trivial | contradiction | (exfalso; simp_all; done) | skip
    all_goals first | rfl | (rw [tab_succ]; rfl)
  · refine q_spec_l02Off_L0 _ _ _ _ ?_
    repeat' (first | with_reducible refine T.ok_ob ?_ (fun _ => ?_) | with_reducible refine T.ok_ite (fun _ => ?_) (fun _ => ?_) | with_reducible refine T.ok_leaf ?_)
    all_goals (try simp only [decide_eq_true_eq, decide_eq_false_iff_not, Bool.not_eq_true', Bool.not_eq_false', Bool.not_eq_eq_eq_not, Bool.not_true, Bool.not_false, Int.toNat_natCast, tab_len, List.length_append, List.length_singleton, List.length_cons, List.length_nil, List.length_drop, List.length_take, getD_drop', getD_nat, reduceCtorEq] at *)
    all_goals (try simp (disch := omega) only [wrap64_id] at *)
    all_goals first | omega | (exfalso; omega) | trivial | contradiction | (exfalso; simp_all; done) | skip
    all_goals rfl
theorem k_impl_TakeApart_1 {P : Program} {f : FuncId} (h : Is_impl_TakeApart_1 P f) : C_impl_TakeApart_1 P f := by
  rintro xs ps per ⟨rfl, hp⟩ hx
  refine q_impl_TakeApart_1 h xs ps _ ⟨?_, fun _ => rfl⟩
  refine for_up (e := .exit 0) xs.length (fun i => h_impl_TakeApart_1_L0 xs ps ps.length (tab i fun i => ps.getD (i % ps.length) 0) i) rfl (fun i hi => ?_) ?_
  · refine q_impl_TakeApart_1_L0 _ _ _ _ _ ?_
    have hm := Nat.mod_lt i (show 0 < ps.length by omega)
    rw [tmod_nat]
    repeat' (first | with_reducible refine T.ok_ob ?_ (fun _ => ?_) | with_reducible refine T.ok_ite (fun _ => ?_) (fun _ => ?_) | with_reducible refine T.ok_leaf ?_)
    all_goals (try simp only [decide_eq_true_eq, decide_eq_false_iff_not, Bool.not_eq_true', Bool.not_eq_false', Bool.not_eq_eq_eq_not, Bool.not_true, Bool.not_false, Int.toNat_natCast, tab_len, List.length_append, List.length_singleton, List.length_cons, List.length_nil, List.length_drop, List.length_take, getD_drop', getD_nat, reduceCtorEq] at *)
    all_goals (try simp (disch := omega) only [wrap64_id] at *)
    all_goals first | omega | (exfalso; omega) | exact True.intro | skip
    all_goals first | omega | (rw [tab_succ]; rfl)
  · refine q_impl_TakeApart_1_L0 _ _ _ _ _ ?_
    repeat' (first | with_reducible refine T.ok_ob ?_ (fun _ => ?_) | with_reducible refine T.ok_ite (fun _ => ?_) (fun _ => ?_) | with_reducible refine T.ok_leaf ?_)
    all_goals (try simp only [decide_eq_true_eq, decide_eq_false_iff_not, Bool.not_eq_true', Bool.not_eq_false', Bool.not_eq_eq_eq_not, Bool.not_true, Bool.not_false, Int.toNat_natCast, tab_len, List.length_append, List.length_singleton, List.length_cons, List.length_nil, List.length_drop, List.length_take, getD_drop', getD_nat, reduceCtorEq] at *)
    all_goals (try simp (disch := omega) only [wrap64_id] at *)
    all_goals first | omega | (exfalso; omega) | exact True.intro | skip
    all_goals rfl
theorem k_spec_l02Spreads {P : Program} {f : FuncId} (h : Is_spec_l02Spreads P f) : C_spec_l02Spreads P f := by
  intro ps n hp hn
  obtain ⟨m, rfl⟩ : ∃ m : Nat, n = m := ⟨n.toNat, by omega⟩
  refine q_spec_l02Spreads h ps _ ⟨?_, fun _ => rfl⟩
  rw [Int.toNat_natCast]
  refine for_up (e := .exit 0) m (fun i => h_spec_l02Spreads_L0 ps m (tab i fun i => ps.getD (i % ps.length) 0) i) rfl (fun i hi => ?_) ?_
  · refine q_spec_l02Spreads_L0 _ _ _ _ ?_
    have hm := Nat.mod_lt i (show 0 < ps.length by omega)
    rw [tmod_nat]
    repeat' (first | with_reducible refine T.ok_ob ?_ (fun _ => ?_) | with_reducible refine T.ok_ite (fun _ => ?_) (fun _ => ?_) | with_reducible refine T.ok_leaf ?_)
    all_goals (try simp only [decide_eq_true_eq, decide_eq_false_iff_not, Bool.not_eq_true', Bool.not_eq_false', Bool.not_eq_eq_eq_not, Bool.not_true, Bool.not_false, Int.toNat_natCast, tab_len, List.length_append, List.length_singleton, List.length_cons, List.length_nil, List.length_drop, List.length_take, getD_drop', getD_nat, reduceCtorEq] at *)
    all_goals (try simp (disch := omega) only [wrap64_id] at *)
    all_goals first | omega | (exfalso; omega) | exact True.intro | skip
    all_goals first | omega | (rw [tab_succ]; rfl)
  · refine q_spec_l02Spreads_L0 _ _ _ _ ?_
    repeat' (first | with_reducible refine T.ok_ob ?_ (fun _ => ?_) | with_reducible refine T.ok_ite (fun _ => ?_) (fun _ => ?_) | with_reducible refine T.ok_leaf ?_)
    all_goals (try simp only [decide_eq_true_eq, decide_eq_false_iff_not, Bool.not_eq_true', Bool.not_eq_false', Bool.not_eq_eq_eq_not, Bool.not_true, Bool.not_false, Int.toNat_natCast, tab_len, List.length_append, List.length_singleton, List.length_cons, List.length_nil, List.length_drop, List.length_take, getD_drop', getD_nat, reduceCtorEq] at *)
    all_goals (try simp (disch := omega) only [wrap64_id] at *)
    all_goals first | omega | (exfalso; omega) | exact True.intro | skip
    all_goals rfl
theorem ta_len (xs : List Nat) (p s : Nat) : ∀ k, (taS xs p s k).2.length = p
  | 0 => by simp [taS]
  | k + 1 => season_len _ _
theorem ta_len1 (xs : List Nat) (p s k : Nat) : (taS xs p s (k + 1)).1.length = xs.length := by
  show (movM meanM _ s).length = _
  rw [mov_len, less_len]
theorem spr_zero (p n : Nat) (hp : 1 ≤ p) : sprM (List.replicate p 0) n = List.replicate n 0 := by
  unfold sprM
  rw [List.length_replicate]
  induction n with
  | zero => rfl
  | succ n ih =>
    rw [tab_succ, ih, List.replicate_succ', List.getD_eq_getElem?_getD, List.getElem?_eq_getElem (by rw [List.length_replicate]; exact Nat.mod_lt _ (by omega)), List.getElem_replicate]; rfl
theorem spr_fin {ps : List Nat} {n : Nat} (h1 : 1 ≤ ps.length) (h2 : ps.length ≤ n) : finAllM (sprM ps n) = finAllM ps := by
  rw [Bool.eq_iff_iff]
  unfold finAllM sprM tab
  simp only [List.all_eq_true, List.mem_map, List.mem_range]
  constructor
  · intro h x hx
    obtain ⟨i, hi, rfl⟩ := List.mem_iff_getElem.1 hx
    refine h _ ⟨i, by omega, ?_⟩
    rw [Nat.mod_eq_of_lt hi, List.getD_eq_getElem?_getD, List.getElem?_eq_getElem hi]; rfl
  · rintro h x ⟨i, hi, rfl⟩
    have hm := Nat.mod_lt i (show 0 < ps.length by omega)
    rw [List.getD_eq_getElem?_getD, List.getElem?_eq_getElem hm]
    exact h _ (List.getElem_mem _)

theorem k_impl_TakeApart {P : Program} {f g1 g2 g3 g4 g5 g6 g7 g8 g9 : FuncId} (h : Is_impl_TakeApart P f g1 g2 g3 g4 g5 g6 g7 g8 g9) (c1 : C_impl_isPeriodOf P g1) (c2 : C_impl_isSide P g2) (c3 : C_impl_within P g3) (c4 : C_impl_TakeApart_1 P g4) (c5 : C_impl_less P g5) (c6 : C_impl_moving P g6) (c7 : C_impl_mean P g7) (c8 : C_impl_season P g8) (c9 : C_impl_areFinite P g9) : C_impl_TakeApart P f := by
  intro xs per side n hx
  refine q_impl_TakeApart h xs per side n ?_
  have c1 := c1 xs per hx
  cases h1 : (seriesM xs && inM per 1 xs.length)
  · have e : taOk xs per side n = false := by unfold taOk; rw [h1]; rfl
    rw [e]
    repeat' (first | with_reducible refine T.ok_ob ?_ (fun _ => ?_) | with_reducible refine T.ok_ite (fun _ => ?_) (fun _ => ?_) | with_reducible refine T.ok_leaf ?_)
    all_goals first | exact h1 ▸ c1 | rfl | contradiction
  have c2 := c2 side
  cases h2 : inM side 0 96
  · have e : taOk xs per side n = false := by unfold taOk; rw [h1, h2]; rfl
    rw [e]
    repeat' (first | with_reducible refine T.ok_ob ?_ (fun _ => ?_) | with_reducible refine T.ok_ite (fun _ => ?_) (fun _ => ?_) | with_reducible refine T.ok_leaf ?_)
    all_goals first | exact h1 ▸ c1 | exact h2 ▸ c2 | rfl | contradiction
  have c3 := c3 n 1 8
  cases h3 : inM n 1 8
  · have e : taOk xs per side n = false := by unfold taOk; rw [h1, h2, h3]; rfl
    rw [e]
    repeat' (first | with_reducible refine T.ok_ob ?_ (fun _ => ?_) | with_reducible refine T.ok_ite (fun _ => ?_) (fun _ => ?_) | with_reducible refine T.ok_leaf ?_)
    all_goals first | exact h1 ▸ c1 | exact h2 ▸ c2 | exact h3 ▸ c3 | rfl | contradiction
  have h1' := Bool.and_eq_true_iff.1 h1
  have hl := series_len h1'.1
  have hp : 1 ≤ per ∧ per ≤ xs.length := by simpa [inM] using h1'.2
  have hs : 0 ≤ side ∧ side ≤ 96 := by simpa [inM] using h2
  have hn : 1 ≤ n ∧ n ≤ 8 := by simpa [inM] using h3
  obtain ⟨p, rfl⟩ : ∃ p : Nat, per = p := ⟨per.toNat, by omega⟩
  obtain ⟨s, rfl⟩ : ∃ s : Nat, side = s := ⟨side.toNat, by omega⟩
  obtain ⟨m, rfl⟩ : ∃ m : Nat, n = m := ⟨n.toNat, by omega⟩
  simp only [Int.toNat_natCast] at *
  have tl := fun k => ta_len xs p s k
  have pl : (taS xs p s m).2.length = p := tl m
  obtain ⟨m', rfl⟩ : ∃ m', m = m' + 1 := ⟨m - 1, by omega⟩
  have t1 := ta_len1 xs p s m'
  have e : taOk xs p s ((m' + 1 : Nat) : Int) = (finAllM (taS xs p s (m' + 1)).1 && (finAllM (taS xs p s (m' + 1)).2 && finAllM (taR xs p s (m' + 1)))) := by unfold taOk; rw [h1, h2, h3]; rfl
  have d4 := fun k => c4 xs (taS xs p s k).2 p (by rw [tl k]; exact ⟨rfl, by omega⟩) hl.2
  let st : Nat → Env := fun k => h_impl_TakeApart_L0 g1 g2 g3 g4 g5 g6 g7 g8 g9 xs p s ((m' + 1 : Nat) : Int) xs p (taS xs p s k).2 xs (taS xs p s k).2 p (taS xs p s k).1 k
  have rd : ∀ k, k < m' + 1 → ∀ hd : Env, (Exec (VCall P) ps_impl_TakeApart (b_impl_TakeApart_L0 g1 g2 g3 g4 g5 g6 g7 g8 g9) hd .normal (Env.rnm 368 248 (st (k + 1)))) → Exec (VCall P) ps_impl_TakeApart (b_impl_TakeApart_L0 g1 g2 g3 g4 g5 g6 g7 g8 g9) hd .normal (st (k + 1)) :=
    fun k _ hd key => Exec.renameR 368 248 (by decide) (by decide) key
  have d5a := fun k => c5 xs (sprM (taS xs p s k).2 xs.length) (by rw [spr_len]; exact Nat.le_refl _) (by omega)
  have d6 := fun k => c6 (lessM xs (sprM (taS xs p s k).2 xs.length)) s g7 meanM ⟨fun _ => True, fun _ => trivial, fun ys _ _ _ => c7 ys (by rw [maxLen_eq]; omega)⟩ hs (by rw [less_len]; exact hl.2)
  have d5b := fun k => c5 xs (taS xs p s (k + 1)).1 (by rw [ta_len1]; exact Nat.le_refl _) (by omega)
  have d8 := fun k => c8 (lessM xs (taS xs p s (k + 1)).1) p (by rw [less_len]; omega) (by rw [less_len]; exact hl.2)
  simp only [Int.toNat_natCast] at d6 d8
  have first : Exec (VCall P) ps_impl_TakeApart (b_impl_TakeApart_L0 g1 g2 g3 g4 g5 g6 g7 g8 g9) (h_ta_nil g1 g2 g3 g4 g5 g6 g7 g8 g9 xs p s ((m' + 1 : Nat) : Int) xs p (taS xs p s 0).2 xs (taS xs p s 0).2 p [] ((0 : Nat) : Int)) .normal (st 1) := by
    refine rd 0 (by omega) _ ?_
    refine l_ta_nil _ _ _ _ _ _ _ _ _ _ _ _ ?_
    have w : IntKind.wrap .i64 (((0 : Nat) : Int) + 1) = ((1 : Nat) : Int) := by decide
    rw [w, decide_eq_true (show ((0 : Nat) : Int) < ((m' + 1 : Nat) : Int) by omega)]
    simp only [Int.toNat_natCast]
    repeat' (first | with_reducible refine T.ok_ob ?_ (fun _ => ?_) | with_reducible refine T.ok_ite (fun _ => ?_) (fun _ => ?_) | with_reducible refine T.ok_leaf ?_)
    all_goals first | contradiction | exact d4 0 | exact d5a 0 | exact d6 0 | exact d5b 0 | exact d8 0 | trivial | rfl
  have more : ∀ k, 1 ≤ k → k < m' + 1 → Exec (VCall P) ps_impl_TakeApart (b_impl_TakeApart_L0 g1 g2 g3 g4 g5 g6 g7 g8 g9) (st k) .normal (st (k + 1)) := by
    intro k h0 hk
    refine rd k hk _ ?_
    refine q_impl_TakeApart_L0 _ _ _ _ _ _ _ _ _ _ _ _ ?_
    have w : IntKind.wrap .i64 ((k : Int) + 1) = ((k + 1 : Nat) : Int) := by rw [wrap64_id (by omega) (by omega)]; omega
    rw [w, decide_eq_true (show (k : Int) < ((m' + 1 : Nat) : Int) by omega)]
    simp only [Int.toNat_natCast]
    repeat' (first | with_reducible refine T.ok_ob ?_ (fun _ => ?_) | with_reducible refine T.ok_ite (fun _ => ?_) (fun _ => ?_) | with_reducible refine T.ok_leaf ?_)
    all_goals first | contradiction | exact d4 k | exact d5a k | exact d6 k | exact d5b k | exact d8 k | trivial | rfl
  have last : Exec (VCall P) ps_impl_TakeApart (b_impl_TakeApart_L0 g1 g2 g3 g4 g5 g6 g7 g8 g9) (st (m' + 1)) (.exit 0) (st (m' + 1)) := by
    refine q_impl_TakeApart_L0 _ _ _ _ _ _ _ _ _ _ _ _ ?_
    rw [decide_eq_false (show ¬ ((m' + 1 : Nat) : Int) < ((m' + 1 : Nat) : Int) by omega)]
    repeat' (first | with_reducible refine T.ok_ob ?_ (fun _ => ?_) | with_reducible refine T.ok_ite (fun _ => ?_) (fun _ => ?_) | with_reducible refine T.ok_leaf ?_)
    all_goals first | contradiction | rfl
  have all : ∀ j k, 1 ≤ k → k + j = m' + 1 → Exec (VCall P) ps_impl_TakeApart (.loop (b_impl_TakeApart_L0 g1 g2 g3 g4 g5 g6 g7 g8 g9)) (st k) (.exit 0) (st (m' + 1)) := by
    intro j
    induction j with
    | zero => intro k _ hk; have : k = m' + 1 := by omega
              subst this; exact .loopX last (by simp)
    | succ j ih => intro k h0 hk; exact .loopN (more k h0 (by omega)) (ih (k + 1) (by omega) (by omega))
  have whole : Exec (VCall P) ps_impl_TakeApart (VCode.block 0 (VCode.loop (b_impl_TakeApart_L0 g1 g2 g3 g4 g5 g6 g7 g8 g9))) (h_ta_nil g1 g2 g3 g4 g5 g6 g7 g8 g9 xs p s ((m' + 1 : Nat) : Int) xs p (taS xs p s 0).2 xs (taS xs p s 0).2 p [] ((0 : Nat) : Int)) .normal (st (m' + 1)) :=
    Exec.block (.loopN first (all m' 1 (by omega) (by omega)))
  have a1 := c9 (taS xs p s (m' + 1)).1 (by rw [t1]; exact hx)
  have a2 := c9 (taS xs p s (m' + 1)).2 (by rw [pl, maxLen_eq]; omega)
  have a3 := c9 (taR xs p s (m' + 1)) (by unfold taR; rw [less_len, less_len]; exact hx)
  have b1 := c5 xs (taS xs p s (m' + 1)).1 (by rw [t1]; exact Nat.le_refl _) (by omega)
  have b2 := c5 (lessM xs (taS xs p s (m' + 1)).1) (sprM (taS xs p s (m' + 1)).2 xs.length) (by rw [spr_len, less_len]; exact Nat.le_refl _) (by rw [less_len]; omega)
  rw [e]
  rw [show lessM (lessM xs (taS xs p s (m' + 1)).1) (sprM (taS xs p s (m' + 1)).2 xs.length) = taR xs p s (m' + 1) from rfl] at *
  cases f1 : finAllM (taS xs p s (m' + 1)).1
  · repeat' (first | with_reducible refine T.ok_ob ?_ (fun _ => ?_) | with_reducible refine T.ok_ite (fun _ => ?_) (fun _ => ?_) | with_reducible refine T.ok_leaf ?_)
    all_goals first | exact h1 ▸ c1 | exact h2 ▸ c2 | exact h3 ▸ c3 | exact f1 ▸ a1 | exact b1 | exact b2 | exact d4 (m' + 1) | contradiction | omega | rfl | trivial | exact ⟨trivial, by omega, by omega⟩ | exact whole
  cases f2 : finAllM (taS xs p s (m' + 1)).2
  · repeat' (first | with_reducible refine T.ok_ob ?_ (fun _ => ?_) | with_reducible refine T.ok_ite (fun _ => ?_) (fun _ => ?_) | with_reducible refine T.ok_leaf ?_)
    all_goals first | exact h1 ▸ c1 | exact h2 ▸ c2 | exact h3 ▸ c3 | exact f1 ▸ a1 | exact f2 ▸ a2 | exact b1 | exact b2 | exact d4 (m' + 1) | contradiction | omega | rfl | trivial | exact ⟨trivial, by omega, by omega⟩ | exact whole
  cases f3 : finAllM (taR xs p s (m' + 1))
  · repeat' (first | with_reducible refine T.ok_ob ?_ (fun _ => ?_) | with_reducible refine T.ok_ite (fun _ => ?_) (fun _ => ?_) | with_reducible refine T.ok_leaf ?_)
    all_goals first | exact h1 ▸ c1 | exact h2 ▸ c2 | exact h3 ▸ c3 | exact f1 ▸ a1 | exact f2 ▸ a2 | exact f3 ▸ a3 | exact b1 | exact b2 | exact d4 (m' + 1) | contradiction | omega | rfl | trivial | exact ⟨trivial, by omega, by omega⟩ | exact whole
  · repeat' (first | with_reducible refine T.ok_ob ?_ (fun _ => ?_) | with_reducible refine T.ok_ite (fun _ => ?_) (fun _ => ?_) | with_reducible refine T.ok_leaf ?_)
    all_goals first | exact h1 ▸ c1 | exact h2 ▸ c2 | exact h3 ▸ c3 | exact f1 ▸ a1 | exact f2 ▸ a2 | exact f3 ▸ a3 | exact b1 | exact b2 | exact d4 (m' + 1) | contradiction | omega | rfl | trivial | exact ⟨trivial, by omega, by omega⟩ | exact whole

theorem k_spec_TakeApart {P : Program} {f g1 g2 g3 g4 g5 g6 g7 : FuncId} (h : Is_spec_TakeApart P f g1 g2 g3 g4 g5 g6 g7) (c1 : C_spec_l02Series P g1) (c2 : C_spec_l00In P g2) (c3 : C_spec_l02Off P g3) (c4 : C_spec_l02Moving P g4) (c5 : C_spec_l02Season P g5) (c6 : C_spec_l02Spreads P g6) (c7 : C_spec_l02Finite P g7) : C_spec_TakeApart P f := by
  intro xs per side n hx
  refine q_spec_TakeApart h xs per side n ?_
  have a1 := c1 xs hx
  cases h0 : seriesM xs
  · have e : taOk xs per side n = false := by unfold taOk; rw [h0]; rfl
    rw [e]
    repeat' (first | with_reducible refine T.ok_ob ?_ (fun _ => ?_) | with_reducible refine T.ok_ite (fun _ => ?_) (fun _ => ?_) | with_reducible refine T.ok_leaf ?_)
    all_goals first | exact h0 ▸ a1 | rfl | contradiction
  have a2 := c2 per 1 xs.length
  cases h1 : inM per 1 xs.length
  · have e : taOk xs per side n = false := by unfold taOk; rw [h0, h1]; rfl
    rw [e]
    repeat' (first | with_reducible refine T.ok_ob ?_ (fun _ => ?_) | with_reducible refine T.ok_ite (fun _ => ?_) (fun _ => ?_) | with_reducible refine T.ok_leaf ?_)
    all_goals first | exact h0 ▸ a1 | exact h1 ▸ a2 | rfl | contradiction
  have a3 := c2 side 0 96
  cases h2 : inM side 0 96
  · have e : taOk xs per side n = false := by unfold taOk; rw [h0, h1, h2]; rfl
    rw [e]
    repeat' (first | with_reducible refine T.ok_ob ?_ (fun _ => ?_) | with_reducible refine T.ok_ite (fun _ => ?_) (fun _ => ?_) | with_reducible refine T.ok_leaf ?_)
    all_goals first | exact h0 ▸ a1 | exact h1 ▸ a2 | exact h2 ▸ a3 | rfl | contradiction
  have a4 := c2 n 1 8
  cases h3 : inM n 1 8
  · have e : taOk xs per side n = false := by unfold taOk; rw [h0, h1, h2, h3]; rfl
    rw [e]
    repeat' (first | with_reducible refine T.ok_ob ?_ (fun _ => ?_) | with_reducible refine T.ok_ite (fun _ => ?_) (fun _ => ?_) | with_reducible refine T.ok_leaf ?_)
    all_goals first | exact h0 ▸ a1 | exact h1 ▸ a2 | exact h2 ▸ a3 | exact h3 ▸ a4 | rfl | contradiction
  have hl := series_len h0
  have hp : 1 ≤ per ∧ per ≤ xs.length := by simpa [inM] using h1
  have hs : 0 ≤ side ∧ side ≤ 96 := by simpa [inM] using h2
  have hn : 1 ≤ n ∧ n ≤ 8 := by simpa [inM] using h3
  obtain ⟨p, rfl⟩ : ∃ p : Nat, per = p := ⟨per.toNat, by omega⟩
  obtain ⟨s, rfl⟩ : ∃ s : Nat, side = s := ⟨side.toNat, by omega⟩
  obtain ⟨m, rfl⟩ : ∃ m : Nat, n = m := ⟨n.toNat, by omega⟩
  simp only [Int.toNat_natCast] at *
  have tl := fun k => ta_len xs p s k
  have pl : (taS xs p s m).2.length = p := tl m
  obtain ⟨m', rfl⟩ : ∃ m', m = m' + 1 := ⟨m - 1, by omega⟩
  have t1 := ta_len1 xs p s m'
  have sf : finAllM (sprM (taS xs p s (m' + 1)).2 xs.length) = finAllM (taS xs p s (m' + 1)).2 := spr_fin (by rw [pl]; omega) (by rw [pl]; omega)
  have e : taOk xs p s ((m' + 1 : Nat) : Int) = (finAllM (taS xs p s (m' + 1)).1 && (finAllM (sprM (taS xs p s (m' + 1)).2 xs.length) && finAllM (taR xs p s (m' + 1)))) := by rw [sf]; unfold taOk; rw [h0, h1, h2, h3]; rfl
  let st : Nat → Env := fun k => h_spec_TakeApart_L0 xs p s ((m' + 1 : Nat) : Int) (taS xs p s k).1 (sprM (taS xs p s k).2 xs.length) k
  have d3a := fun k => c3 xs (sprM (taS xs p s k).2 xs.length) (by rw [spr_len]; exact Nat.le_refl _) (by omega)
  have d4 := fun k => c4 (lessM xs (sprM (taS xs p s k).2 xs.length)) s hs (by rw [less_len]; exact hl.2)
  have d3b := fun k => c3 xs (taS xs p s (k + 1)).1 (by rw [ta_len1]; exact Nat.le_refl _) (by omega)
  have d5 := fun k => c5 (lessM xs (taS xs p s (k + 1)).1) p (by rw [less_len]; omega) (by rw [less_len]; exact hl.2)
  have d6 := fun k => c6 (taS xs p s (k + 1)).2 xs.length (by rw [tl]; omega) (by omega)
  simp only [Int.toNat_natCast] at d4 d5 d6
  have more : ∀ k, k < m' + 1 → Exec (VCall P) ps_spec_TakeApart (b_spec_TakeApart_L0 g1 g2 g3 g4 g5 g6 g7) (st k) .normal (st (k + 1)) := by
    intro k hk
    have key : Exec (VCall P) ps_spec_TakeApart (b_spec_TakeApart_L0 g1 g2 g3 g4 g5 g6 g7) (st k) .normal (Env.rnm 408 312 (Env.rnm 464 328 (st (k + 1)))) := by
      refine q_spec_TakeApart_L0 _ _ _ _ _ _ _ ?_
      have w : IntKind.wrap .i64 ((k : Int) + 1) = ((k + 1 : Nat) : Int) := by rw [wrap64_id (by omega) (by omega)]; omega
      rw [w, decide_eq_true (show (k : Int) < ((m' + 1 : Nat) : Int) by omega)]
      simp only [Int.toNat_natCast]
      repeat' (first | with_reducible refine T.ok_ob ?_ (fun _ => ?_) | with_reducible refine T.ok_ite (fun _ => ?_) (fun _ => ?_) | with_reducible refine T.ok_leaf ?_)
      all_goals first | contradiction | exact d3a k | exact d4 k | exact d3b k | exact d5 k | exact d6 k | trivial | rfl
    exact Exec.renameR 464 328 (by decide) (by decide) (Exec.renameR 408 312 (by decide) (by decide) key)
  have whole : Exec (VCall P) ps_spec_TakeApart (VCode.block 0 (VCode.loop (b_spec_TakeApart_L0 g1 g2 g3 g4 g5 g6 g7))) (h_spec_TakeApart_L0 xs p s ((m' + 1 : Nat) : Int) [] (List.replicate xs.length 0) ((0 : Nat) : Int)) .normal (st (m' + 1)) := by
    refine for_up (e := .exit 0) (m' + 1) st ?_ (fun k hk => more k hk) ?_
    · show _ = h_spec_TakeApart_L0 xs p s ((m' + 1 : Nat) : Int) [] (sprM (List.replicate p 0) xs.length) ((0 : Nat) : Int)
      rw [spr_zero p _ (by omega)]
    · refine q_spec_TakeApart_L0 _ _ _ _ _ _ _ ?_
      rw [decide_eq_false (show ¬ ((m' + 1 : Nat) : Int) < ((m' + 1 : Nat) : Int) by omega)]
      repeat' (first | with_reducible refine T.ok_ob ?_ (fun _ => ?_) | with_reducible refine T.ok_ite (fun _ => ?_) (fun _ => ?_) | with_reducible refine T.ok_leaf ?_)
      all_goals first | contradiction | rfl
  have b1 := c7 (taS xs p s (m' + 1)).1 (by rw [t1]; exact hx)
  have b2 := c7 (sprM (taS xs p s (m' + 1)).2 xs.length) (by rw [spr_len]; exact hx)
  have b3 := c7 (taR xs p s (m' + 1)) (by unfold taR; rw [less_len, less_len]; exact hx)
  have b4 := c3 xs (taS xs p s (m' + 1)).1 (by rw [t1]; exact Nat.le_refl _) (by omega)
  have b5 := c3 (lessM xs (taS xs p s (m' + 1)).1) (sprM (taS xs p s (m' + 1)).2 xs.length) (by rw [spr_len, less_len]; exact Nat.le_refl _) (by rw [less_len]; omega)
  rw [e]
  rw [show lessM (lessM xs (taS xs p s (m' + 1)).1) (sprM (taS xs p s (m' + 1)).2 xs.length) = taR xs p s (m' + 1) from rfl] at *
  cases f1 : finAllM (taS xs p s (m' + 1)).1
  · repeat' (first | with_reducible refine T.ok_ob ?_ (fun _ => ?_) | with_reducible refine T.ok_ite (fun _ => ?_) (fun _ => ?_) | with_reducible refine T.ok_leaf ?_)
    all_goals first | exact h0 ▸ a1 | exact h1 ▸ a2 | exact h2 ▸ a3 | exact h3 ▸ a4 | exact f1 ▸ b1 | exact b4 | exact b5 | contradiction | omega | rfl | trivial | exact ⟨trivial, by omega, by omega⟩ | exact whole
  cases f2 : finAllM (sprM (taS xs p s (m' + 1)).2 xs.length)
  · repeat' (first | with_reducible refine T.ok_ob ?_ (fun _ => ?_) | with_reducible refine T.ok_ite (fun _ => ?_) (fun _ => ?_) | with_reducible refine T.ok_leaf ?_)
    all_goals first | exact h0 ▸ a1 | exact h1 ▸ a2 | exact h2 ▸ a3 | exact h3 ▸ a4 | exact f1 ▸ b1 | exact f2 ▸ b2 | exact b4 | exact b5 | contradiction | omega | rfl | trivial | exact ⟨trivial, by omega, by omega⟩ | exact whole
  cases f3 : finAllM (taR xs p s (m' + 1))
  · repeat' (first | with_reducible refine T.ok_ob ?_ (fun _ => ?_) | with_reducible refine T.ok_ite (fun _ => ?_) (fun _ => ?_) | with_reducible refine T.ok_leaf ?_)
    all_goals first | exact h0 ▸ a1 | exact h1 ▸ a2 | exact h2 ▸ a3 | exact h3 ▸ a4 | exact f1 ▸ b1 | exact f2 ▸ b2 | exact f3 ▸ b3 | exact b4 | exact b5 | contradiction | omega | rfl | trivial | exact ⟨trivial, by omega, by omega⟩ | exact whole
  · repeat' (first | with_reducible refine T.ok_ob ?_ (fun _ => ?_) | with_reducible refine T.ok_ite (fun _ => ?_) (fun _ => ?_) | with_reducible refine T.ok_leaf ?_)
    all_goals first | exact h0 ▸ a1 | exact h1 ▸ a2 | exact h2 ▸ a3 | exact h3 ▸ a4 | exact f1 ▸ b1 | exact f2 ▸ b2 | exact f3 ▸ b3 | exact b4 | exact b5 | contradiction | omega | rfl | trivial | exact ⟨trivial, by omega, by omega⟩ | exact whole

end Go.Proofs.LV
