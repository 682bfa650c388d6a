/- Days, feasts, work days. -/
import Derived.Test.YtjfgmnfkkehgfaaLvFnE
namespace Go.Proofs.LV
open Go
set_option linter.unusedVariables false
set_option linter.unusedSimpArgs false

abbrev PI (p : List Nat) (xs : List Int) : AV := .sl (.par p) 0 (.i .i64 xs)
abbrev OI (n : Nat) (xs : List Int) : AV := .sl (.own n) 0 (.i .i64 xs)
def leapM (y : Int) : Bool := (y.tmod 4 == 0 && y.tmod 100 != 0) || y.tmod 400 == 0
def longM (y : Int) : Int := if leapM y = true then 366 else 365
/-- the number of the first day of a year -/
def yearM (y : Int) : Int := sumN (y - 2000).toNat (fun i => longM (2000 + i)) - sumN (2000 - y).toNat (fun i => longM (1999 - i))
def isDayM (n : Int) : Bool := inM n (-36524) 73048
def weekM (n : Int) : Int := ((n + 5).tmod 7 + 7).tmod 7

-- FN impl_leaps
/-- impl.leaps: slots 16, results [.t 2]; calls []; names [(year, 0), (year, 1)] -/
def ps_impl_leaps : List Nat := [0, 2]
def b_impl_leaps : VCode :=
  (.seq
   (.region false [
    ⟨some 2, .mv, [.k (.b false)], none⟩])
   (.seq
    (.region false [
     ⟨some 3, .mv, [.t 0], none⟩,
     ⟨some 4, (.bin .rem), [.t 3, .k (.i .i64 4)], none⟩,
     ⟨some 5, (.bin .eql), [.t 4, .k (.i .i64 0)], none⟩,
     ⟨some 6, .mv, [.t 5], none⟩,
     ⟨some 7, .mv, [.t 0], some (6, true)⟩,
     ⟨some 8, (.bin .rem), [.t 7, .k (.i .i64 100)], some (6, true)⟩,
     ⟨some 9, (.bin .neq), [.t 8, .k (.i .i64 0)], some (6, true)⟩,
     ⟨some 10, .pick, [.t 6, .t 9, .k (.b false)], none⟩,
     ⟨some 11, .mv, [.t 10], none⟩,
     ⟨some 12, .mv, [.t 0], some (11, false)⟩,
     ⟨some 13, (.bin .rem), [.t 12, .k (.i .i64 400)], some (11, false)⟩,
     ⟨some 14, (.bin .eql), [.t 13, .k (.i .i64 0)], some (11, false)⟩,
     ⟨some 15, .pick, [.t 11, .k (.b true), .t 14], none⟩,
     ⟨some 2, .mv, [.t 15], none⟩])
    .ret))

abbrev Is_impl_leaps (P : Program) (g_f : FuncId) : Prop := FnIs P g_f 16 [.t 2] (b_impl_leaps)

abbrev C_impl_leaps (P : Program) (g_f : FuncId) : Prop := ∀ (y : Int), VCall P g_f [.i .i64 y] (.b (leapM y))
def oc1_impl_leaps (as : List AV) : T AV := match as with | [.i .i64 y] => .leaf (.b (leapM y)) | _ => .fail



theorem q_impl_leaps {P : Program} {g_f : FuncId} (h_ : Is_impl_leaps P g_f) (y : Int) (ht : T.ok (fun x_ => x_ = .b (leapM y)) (
      T.ob ((4 : Int) ≠ 0) (T.ite (Int.tmod y 4 == 0) (T.ob ((100 : Int) ≠ 0) (T.ite (Int.tmod y 100 != 0) (T.leaf (AV.b true)) (T.ob ((400 : Int) ≠ 0) (T.leaf (AV.b (Int.tmod y 400 == 0)))))) (T.ob ((400 : Int) ≠ 0) (T.leaf (AV.b (Int.tmod y 400 == 0))))))) :
    VCall P g_f [.i .i64 y] (.b (leapM y)) := h_.call_of ps_impl_leaps ⟨fun _ _ => .fail, fun _ _ => none⟩ (by kernel_rfl) ht

-- END impl_leaps



-- FN impl_newYear
/-- impl.newYear: slots 29, results [.t 2]; calls [14:g_impl_leaps, 25:g_impl_leaps]; names [(year, 0), (year, 1), (n, 3), (y, 4), (y, 5)] -/
def ps_impl_newYear : List Nat := [0, 2, 3, 4, 5, 8, 14, 19, 25]
def lv_impl_newYear_L0 : List Nat := [0, 3, 4]
def lv_impl_newYear_L2 : List Nat := [0, 3, 5]
def b_impl_newYear_L0 (g_impl_leaps : FuncId) : VCode :=
  (.seq
   (.seq
    (.region false [
     ⟨some 6, .mv, [.t 4], none⟩,
     ⟨some 7, .mv, [.t 0], none⟩,
     ⟨some 8, (.bin .lss), [.t 6, .t 7], none⟩])
    (.cond (.t 8)
     .skip
     (.exit 0)))
   (.seq
    (.block 1
     (.seq
      (.region false [
       ⟨some 11, .mv, [.t 3], none⟩,
       ⟨some 12, (.bin .add), [.t 11, .k (.i .i64 365)], none⟩,
       ⟨some 3, .mv, [.t 12], none⟩])
      (.seq
       (.region false [
        ⟨some 13, .mv, [.t 4], none⟩,
        ⟨some 14, (.call g_impl_leaps), [.t 13], none⟩])
       (.cond (.t 14)
        (.region false [
         ⟨some 15, .mv, [.t 3], none⟩,
         ⟨some 16, (.bin .add), [.t 15, .k (.i .i64 1)], none⟩,
         ⟨some 3, .mv, [.t 16], none⟩])
        .skip))))
    (.region false [
     ⟨some 9, .mv, [.t 4], none⟩,
     ⟨some 10, (.bin .add), [.t 9, .k (.i .i64 1)], none⟩,
     ⟨some 4, .mv, [.t 10], none⟩])))

def b_impl_newYear_L2 (g_impl_leaps : FuncId) : VCode :=
  (.seq
   (.seq
    (.region false [
     ⟨some 17, .mv, [.t 5], none⟩,
     ⟨some 18, .mv, [.t 0], none⟩,
     ⟨some 19, (.bin .geq), [.t 17, .t 18], none⟩])
    (.cond (.t 19)
     .skip
     (.exit 2)))
   (.seq
    (.block 3
     (.seq
      (.region false [
       ⟨some 22, .mv, [.t 3], none⟩,
       ⟨some 23, (.bin .sub), [.t 22, .k (.i .i64 365)], none⟩,
       ⟨some 3, .mv, [.t 23], none⟩])
      (.seq
       (.region false [
        ⟨some 24, .mv, [.t 5], none⟩,
        ⟨some 25, (.call g_impl_leaps), [.t 24], none⟩])
       (.cond (.t 25)
        (.region false [
         ⟨some 26, .mv, [.t 3], none⟩,
         ⟨some 27, (.bin .sub), [.t 26, .k (.i .i64 1)], none⟩,
         ⟨some 3, .mv, [.t 27], none⟩])
        .skip))))
    (.region false [
     ⟨some 20, .mv, [.t 5], none⟩,
     ⟨some 21, (.bin .sub), [.t 20, .k (.i .i64 1)], none⟩,
     ⟨some 5, .mv, [.t 21], none⟩])))

def b_impl_newYear (g_impl_leaps : FuncId) : VCode :=
  (.seq
   (.region false [
    ⟨some 2, .mv, [.k (.i .i64 0)], none⟩])
   (.seq
    (.region false [
     ⟨some 3, .mv, [.k (.i .i64 0)], none⟩])
    (.seq
     (.seq
      (.region false [
       ⟨some 4, .mv, [.k (.i .i64 2000)], none⟩])
      (.block 0 (.loop (b_impl_newYear_L0 g_impl_leaps))))
     (.seq
      (.seq
       (.region false [
        ⟨some 5, .mv, [.k (.i .i64 1999)], none⟩])
       (.block 2 (.loop (b_impl_newYear_L2 g_impl_leaps))))
      (.seq
       (.region false [
        ⟨some 28, .mv, [.t 3], none⟩,
        ⟨some 2, .mv, [.t 28], none⟩])
       .ret)))))

abbrev Is_impl_newYear (P : Program) (g_f : FuncId) (g_impl_leaps : FuncId) : Prop := FnIs P g_f 29 [.t 2] (b_impl_newYear g_impl_leaps)

abbrev C_impl_newYear (P : Program) (g_f : FuncId) : Prop := ∀ (y : Int) (hy : 1900 ≤ y ∧ y ≤ 2200), VCall P g_f [.i .i64 y] (.i .i64 (yearM y))
def oc1_impl_newYear (as : List AV) : T AV := match as with | [.i .i64 y] => .leaf (.i .i64 (yearM y)) | _ => .fail
def oc_impl_newYear (y : Int) (d : Nat) (as : List AV) : T AV := match d with | 14 => oc1_impl_leaps as | 25 => oc1_impl_leaps as | _ => .fail
def h_impl_newYear_L0 (y : Int) (n : Int) (y2 : Int) : Env := [AV.i IntKind.i64 y, .any, .any, .i IntKind.i64 n, .i IntKind.i64 y2] ++ anys 24
def h_impl_newYear_L2 (y : Int) (n : Int) (y2 : Int) : Env := [AV.i IntKind.i64 y, .any, .any, .i IntKind.i64 n, .any, .i IntKind.i64 y2] ++ anys 23

theorem q_impl_newYear_L0 {VC : FuncId → List AV → AV → Prop} {g_impl_leaps : FuncId} (y : Int) (n : Int) (y2 : Int) {e_ : Ex} {σ_ : Env} (ht : T.ok (fun x_ => x_ = (e_, σ_)) (
      T.ite (decide (y2 < y))
        (T.ob (VC g_impl_leaps [AV.i IntKind.i64 y2] (AV.b (leapM y2)))
          (T.ite (leapM y2) (T.leaf (Ex.normal, h_impl_newYear_L0 y (IntKind.wrap IntKind.i64 (IntKind.wrap IntKind.i64 (n + 365) + 1)) (IntKind.wrap IntKind.i64 (y2 + 1))))
            (T.leaf (Ex.normal, h_impl_newYear_L0 y (IntKind.wrap IntKind.i64 (n + 365)) (IntKind.wrap IntKind.i64 (y2 + 1))))))
        (T.leaf (Ex.exit 0, h_impl_newYear_L0 y n y2)))) :
    Exec VC ps_impl_newYear (b_impl_newYear_L0 g_impl_leaps) (h_impl_newYear_L0 y n y2) e_ σ_ := evL_of (lv := lv_impl_newYear_L0) (rs := [2]) (O := ⟨oc_impl_newYear y, fun _ _ => none⟩) (by kernel_rfl) ht

theorem q_impl_newYear_L2 {VC : FuncId → List AV → AV → Prop} {g_impl_leaps : FuncId} (y : Int) (n : Int) (y2 : Int) {e_ : Ex} {σ_ : Env} (ht : T.ok (fun x_ => x_ = (e_, σ_)) (
      T.ite (decide (y2 ≥ y))
        (T.ob (VC g_impl_leaps [AV.i IntKind.i64 y2] (AV.b (leapM y2)))
          (T.ite (leapM y2) (T.leaf (Ex.normal, h_impl_newYear_L2 y (IntKind.wrap IntKind.i64 (IntKind.wrap IntKind.i64 (n - 365) - 1)) (IntKind.wrap IntKind.i64 (y2 - 1))))
            (T.leaf (Ex.normal, h_impl_newYear_L2 y (IntKind.wrap IntKind.i64 (n - 365)) (IntKind.wrap IntKind.i64 (y2 - 1))))))
        (T.leaf (Ex.exit 2, h_impl_newYear_L2 y n y2)))) :
    Exec VC ps_impl_newYear (b_impl_newYear_L2 g_impl_leaps) (h_impl_newYear_L2 y n y2) e_ σ_ := evL_of (lv := lv_impl_newYear_L2) (rs := [2]) (O := ⟨oc_impl_newYear y, fun _ _ => none⟩) (by kernel_rfl) ht

theorem q_impl_newYear {P : Program} {g_f : FuncId} {g_impl_leaps : FuncId} (h_ : Is_impl_newYear P g_f g_impl_leaps) (y : Int) (ht : T.ok (fun x_ => x_ = .i .i64 (yearM y)) (
      T.ob
        (Exec (VCall P) ps_impl_newYear (VCode.block 0 (VCode.loop (b_impl_newYear_L0 g_impl_leaps))) (h_impl_newYear_L0 y 0 2000) Ex.normal
          (h_impl_newYear_L0 y (sumN (Int.toNat (y - 2000)) fun (i : Nat) => longM (2000 + (↑i : Int))) (2000 + (↑(Int.toNat (y - 2000)) : Int))))
        (T.ob
          (Exec (VCall P) ps_impl_newYear (VCode.block 2 (VCode.loop (b_impl_newYear_L2 g_impl_leaps))) (h_impl_newYear_L2 y (sumN (Int.toNat (y - 2000)) fun (i : Nat) => longM (2000 + (↑i : Int))) 1999) Ex.normal
            (h_impl_newYear_L2 y (yearM y) (1999 - (↑(Int.toNat (2000 - y)) : Int))))
          (T.leaf (AV.i IntKind.i64 (yearM y)))))) :
    VCall P g_f [.i .i64 y] (.i .i64 (yearM y)) := h_.call_of ps_impl_newYear ⟨oc_impl_newYear y, fun id σ => match id with | 0 => some (lv_impl_newYear_L0, .leaf (.normal, h_impl_newYear_L0 y (sumN (y - 2000).toNat fun i => longM (2000 + i)) (2000 + (y - 2000).toNat))) | 2 => some (lv_impl_newYear_L2, .leaf (.normal, h_impl_newYear_L2 y (yearM y) (1999 - (2000 - y).toNat))) | _ => none⟩ (by kernel_rfl) ht

-- END impl_newYear


-- FN impl_isDay
/-- impl.isDay: slots 8, results [.t 2]; calls [4:g_impl_newYear, 5:g_impl_newYear, 7:g_impl_within]; names [(n, 0), (n, 1)] -/
def ps_impl_isDay : List Nat := [0, 2]
def b_impl_isDay (g_impl_newYear g_impl_within : FuncId) : VCode :=
  (.seq
   (.region false [
    ⟨some 2, .mv, [.k (.b false)], none⟩])
   (.seq
    (.region false [
     ⟨some 3, .mv, [.t 0], none⟩,
     ⟨some 4, (.call g_impl_newYear), [.k (.i .i64 1900)], none⟩,
     ⟨some 5, (.call g_impl_newYear), [.k (.i .i64 2200)], none⟩,
     ⟨some 6, (.bin .sub), [.t 5, .k (.i .i64 1)], none⟩,
     ⟨some 7, (.call g_impl_within), [.t 3, .t 4, .t 6], none⟩,
     ⟨some 2, .mv, [.t 7], none⟩])
    .ret))

abbrev Is_impl_isDay (P : Program) (g_f : FuncId) (g_impl_newYear g_impl_within : FuncId) : Prop := FnIs P g_f 8 [.t 2] (b_impl_isDay g_impl_newYear g_impl_within)

abbrev C_impl_isDay (P : Program) (g_f : FuncId) : Prop := ∀ (n : Int), VCall P g_f [.i .i64 n] (.b (isDayM n))
def oc1_impl_isDay (as : List AV) : T AV := match as with | [.i .i64 n] => .leaf (.b (isDayM n)) | _ => .fail
def oc_impl_isDay (n : Int) (d : Nat) (as : List AV) : T AV := match d with | 4 => oc1_impl_newYear as | 5 => oc1_impl_newYear as | 7 => oc1_impl_within as | _ => .fail



theorem q_impl_isDay {P : Program} {g_f : FuncId} {g_impl_newYear g_impl_within : FuncId} (h_ : Is_impl_isDay P g_f g_impl_newYear g_impl_within) (n : Int) (ht : T.ok (fun x_ => x_ = .b (isDayM n)) (
      T.ob ((VCall P) g_impl_newYear [AV.i IntKind.i64 1900] (AV.i IntKind.i64 (-36524)))
        (T.ob ((VCall P) g_impl_newYear [AV.i IntKind.i64 2200] (AV.i IntKind.i64 73049))
          (T.ob ((VCall P) g_impl_within [AV.i IntKind.i64 n, AV.i IntKind.i64 (-36524), AV.i IntKind.i64 73048] (AV.b (inM n (-36524) 73048))) (T.leaf (AV.b (inM n (-36524) 73048))))))) :
    VCall P g_f [.i .i64 n] (.b (isDayM n)) := h_.call_of ps_impl_isDay ⟨oc_impl_isDay n, fun _ _ => none⟩ (by kernel_rfl) ht

-- END impl_isDay


-- FN impl_dayOfWeek
/-- impl.dayOfWeek: slots 8, results [.t 2]; calls []; names [(n, 0), (n, 1)] -/
def ps_impl_dayOfWeek : List Nat := [0, 2]
def b_impl_dayOfWeek : VCode :=
  (.seq
   (.region false [
    ⟨some 2, .mv, [.k (.i .i64 0)], none⟩])
   (.seq
    (.region false [
     ⟨some 3, .mv, [.t 0], none⟩,
     ⟨some 4, (.bin .add), [.t 3, .k (.i .i64 5)], none⟩,
     ⟨some 5, (.bin .rem), [.t 4, .k (.i .i64 7)], none⟩,
     ⟨some 6, (.bin .add), [.t 5, .k (.i .i64 7)], none⟩,
     ⟨some 7, (.bin .rem), [.t 6, .k (.i .i64 7)], none⟩,
     ⟨some 2, .mv, [.t 7], none⟩])
    .ret))

abbrev Is_impl_dayOfWeek (P : Program) (g_f : FuncId) : Prop := FnIs P g_f 8 [.t 2] (b_impl_dayOfWeek)

abbrev C_impl_dayOfWeek (P : Program) (g_f : FuncId) : Prop := ∀ (n : Int) (hn : -9223372036854775808 ≤ n ∧ n ≤ 9223372036854775802), VCall P g_f [.i .i64 n] (.i .i64 (weekM n))
def oc1_impl_dayOfWeek (as : List AV) : T AV := match as with | [.i .i64 n] => .leaf (.i .i64 (weekM n)) | _ => .fail



theorem q_impl_dayOfWeek {P : Program} {g_f : FuncId} (h_ : Is_impl_dayOfWeek P g_f) (n : Int) (ht : T.ok (fun x_ => x_ = .i .i64 (weekM n)) (
      T.ob ((7 : Int) ≠ 0) (T.ob ((7 : Int) ≠ 0) (T.leaf (AV.i IntKind.i64 (Int.tmod (IntKind.wrap IntKind.i64 (Int.tmod (IntKind.wrap IntKind.i64 (n + 5)) 7 + 7)) 7)))))) :
    VCall P g_f [.i .i64 n] (.i .i64 (weekM n)) := h_.call_of ps_impl_dayOfWeek ⟨fun _ _ => .fail, fun _ _ => none⟩ (by kernel_rfl) ht

-- END impl_dayOfWeek


-- FN slices_IndexFunc___int64_int64_
/-- slices.IndexFunc[[]int64,int64]: slots 19, results [.t 4]; calls [16:VALUE]; names [(s, 0), (f, 1), (s, 2), (f, 3), (i, 5)] -/
def ps_slices_IndexFunc___int64_int64_ : List Nat := [0, 1, 4, 5, 7, 8, 9, 16]
def lv_slices_IndexFunc___int64_int64__L0 : List Nat := [0, 1, 7, 8]
def b_slices_IndexFunc___int64_int64__L0 : VCode :=
  (.seq
   (.region false [
    ⟨some 9, (.bin .lss), [.t 8, .t 7], none⟩])
   (.seq
    (.cond (.t 9)
     .skip
     (.exit 0))
    (.seq
     (.block 1
      (.seq
       (.region false [
        ⟨some 10, .mv, [.t 8], none⟩,
        ⟨some 5, .mv, [.t 10], none⟩])
       (.seq
        (.region false [
         ⟨some 11, .mv, [.t 1], none⟩,
         ⟨some 12, .mv, [.t 0], none⟩,
         ⟨some 13, .mv, [.t 5], none⟩,
         ⟨some 14, .iaddr, [.t 12, .t 13], none⟩,
         ⟨some 15, .load, [.t 14], none⟩,
         ⟨some 16, .callv, [.t 11, .t 15], none⟩])
        (.cond (.t 16)
         (.seq
          (.region false [
           ⟨some 17, .mv, [.t 5], none⟩,
           ⟨some 4, .mv, [.t 17], none⟩])
          .ret)
         .skip))))
     (.region false [
      ⟨some 18, (.bin .add), [.t 8, .k (.i .i64 1)], none⟩,
      ⟨some 8, .mv, [.t 18], none⟩]))))

def b_slices_IndexFunc___int64_int64_ : VCode :=
  (.seq
   (.region false [
    ⟨some 4, .mv, [.k (.i .i64 0)], none⟩])
   (.seq
    (.seq
     (.region false [
      ⟨some 6, .mv, [.t 0], none⟩,
      ⟨some 7, .len, [.t 6], none⟩,
      ⟨some 8, .mv, [.k (.i .i64 0)], none⟩])
     (.block 0 (.loop b_slices_IndexFunc___int64_int64__L0)))
    (.seq
     (.region false [
      ⟨some 4, .mv, [.k (.i .i64 (-1))], none⟩])
     .ret)))

abbrev Is_slices_IndexFunc___int64_int64_ (P : Program) (g_f : FuncId) : Prop := FnIs P g_f 19 [.t 4] (b_slices_IndexFunc___int64_int64_)

abbrev C_slices_IndexFunc___int64_int64_ (P : Program) (g_f : FuncId) : Prop := ∀ (xs : List Int) (F : FuncId) (p : Int → Bool) (hF : ∀ x, VCall P F [.i .i64 x] (.b (p x))) (hx : xs.length ≤ maxLen), VCall P g_f [PI [0] xs, .fn F []] (.i .i64 (idxM p xs))
def oc_slices_IndexFunc___int64_int64_ (xs : List Int) (F : FuncId) (p : Int → Bool) (d : Nat) (as : List AV) : T AV := match d with | 16 => (match as with | [.i _ x] => .leaf (.b (p x)) | _ => .fail) | _ => .fail
def h_slices_IndexFunc___int64_int64__L0 (xs : List Int) (F : FuncId) (p : Int → Bool) (v8 : Int) : Env := [AV.sl (Tag.par [0]) 0 (Cont.i IntKind.i64 xs), AV.fn F []] ++ anys 5 ++ [AV.i IntKind.i64 (↑(List.length xs) : Int), .i IntKind.i64 v8] ++ anys 10

theorem q_slices_IndexFunc___int64_int64__L0 {VC : FuncId → List AV → AV → Prop} (xs : List Int) (F : FuncId) (p : Int → Bool) (v8 : Int) {e_ : Ex} {σ_ : Env} (ht : T.ok (fun x_ => x_ = (e_, σ_)) (
      T.ite (decide (v8 < (↑(List.length xs) : Int)))
        (T.ob (0 ≤ v8 ∧ v8 < (↑(List.length xs) : Int))
          (T.ob (VC F [AV.i IntKind.i64 (List.getD xs (Int.toNat v8) 0)] (AV.b (p (List.getD xs (Int.toNat v8) 0))))
            (T.ite (p (List.getD xs (Int.toNat v8) 0)) (T.leaf (Ex.ret, anys 4 ++ AV.i IntKind.i64 v8 :: anys 14)) (T.leaf (Ex.normal, h_slices_IndexFunc___int64_int64__L0 xs F p (IntKind.wrap IntKind.i64 (v8 + 1)))))))
        (T.leaf (Ex.exit 0, h_slices_IndexFunc___int64_int64__L0 xs F p v8)))) :
    Exec VC ps_slices_IndexFunc___int64_int64_ (b_slices_IndexFunc___int64_int64__L0) (h_slices_IndexFunc___int64_int64__L0 xs F p v8) e_ σ_ := evL_of (lv := lv_slices_IndexFunc___int64_int64__L0) (rs := [4]) (O := ⟨oc_slices_IndexFunc___int64_int64_ xs F p, fun _ _ => none⟩) (by kernel_rfl) ht

theorem q_slices_IndexFunc___int64_int64_ {P : Program} {g_f : FuncId} (h_ : Is_slices_IndexFunc___int64_int64_ P g_f) (xs : List Int) (F : FuncId) (p : Int → Bool) (ht : T.ok (fun x_ => x_ = .i .i64 (idxM p xs)) (
      T.ite (decide (List.findIdx p xs < List.length xs))
        (T.ob
          (Exec (VCall P) ps_slices_IndexFunc___int64_int64_ (VCode.block 0 (VCode.loop b_slices_IndexFunc___int64_int64__L0)) (h_slices_IndexFunc___int64_int64__L0 xs F p 0) Ex.ret
            (anys 4 ++ AV.i IntKind.i64 (↑(List.findIdx p xs) : Int) :: anys 14))
          (T.leaf (AV.i IntKind.i64 (↑(List.findIdx p xs) : Int))))
        (T.ob
          (Exec (VCall P) ps_slices_IndexFunc___int64_int64_ (VCode.block 0 (VCode.loop b_slices_IndexFunc___int64_int64__L0)) (h_slices_IndexFunc___int64_int64__L0 xs F p 0) Ex.normal
            (h_slices_IndexFunc___int64_int64__L0 xs F p (↑(List.length xs) : Int)))
          (T.leaf (AV.i IntKind.i64 (-1)))))) :
    VCall P g_f [PI [0] xs, .fn F []] (.i .i64 (idxM p xs)) := h_.call_of ps_slices_IndexFunc___int64_int64_ ⟨oc_slices_IndexFunc___int64_int64_ xs F p, fun id σ => match id with | 0 => some (lv_slices_IndexFunc___int64_int64__L0, .ite (decide (xs.findIdx p < xs.length)) (.leaf (.ret, ret1 19 4 (.i .i64 (xs.findIdx p)))) (.leaf (.normal, h_slices_IndexFunc___int64_int64__L0 xs F p xs.length))) | _ => none⟩ (by kernel_rfl) ht

-- END slices_IndexFunc___int64_int64_

-- FN slices_ContainsFunc___int64_int64_
/-- slices.ContainsFunc[[]int64,int64]: slots 9, results [.t 4]; calls [7:g_slices_IndexFunc___int64_int64_]; names [(s, 0), (f, 1), (s, 2), (f, 3)] -/
def ps_slices_ContainsFunc___int64_int64_ : List Nat := [0, 1, 4]
def b_slices_ContainsFunc___int64_int64_ (g_slices_IndexFunc___int64_int64_ : FuncId) : VCode :=
  (.seq
   (.region false [
    ⟨some 4, .mv, [.k (.b false)], none⟩])
   (.seq
    (.region false [
     ⟨some 5, .mv, [.t 0], none⟩,
     ⟨some 6, .mv, [.t 1], none⟩,
     ⟨some 7, (.call g_slices_IndexFunc___int64_int64_), [.t 5, .t 6], none⟩,
     ⟨some 8, (.bin .geq), [.t 7, .k (.i .i64 0)], none⟩,
     ⟨some 4, .mv, [.t 8], none⟩])
    .ret))

abbrev Is_slices_ContainsFunc___int64_int64_ (P : Program) (g_f : FuncId) (g_slices_IndexFunc___int64_int64_ : FuncId) : Prop := FnIs P g_f 9 [.t 4] (b_slices_ContainsFunc___int64_int64_ g_slices_IndexFunc___int64_int64_)

abbrev C_slices_ContainsFunc___int64_int64_ (P : Program) (g_f : FuncId) : Prop := ∀ (xs : List Int) (F : FuncId) (p : Int → Bool) (hF : ∀ x, VCall P F [.i .i64 x] (.b (p x))) (hx : xs.length ≤ maxLen), VCall P g_f [PI [0] xs, .fn F []] (.b (xs.any p))
def oc_slices_ContainsFunc___int64_int64_ (xs : List Int) (F : FuncId) (p : Int → Bool) (d : Nat) (as : List AV) : T AV := match d with | 7 => .leaf (.i .i64 (idxM p xs)) | _ => .fail



theorem q_slices_ContainsFunc___int64_int64_ {P : Program} {g_f : FuncId} {g_slices_IndexFunc___int64_int64_ : FuncId} (h_ : Is_slices_ContainsFunc___int64_int64_ P g_f g_slices_IndexFunc___int64_int64_) (xs : List Int) (F : FuncId) (p : Int → Bool) (ht : T.ok (fun x_ => x_ = .b (xs.any p)) (
      T.ob ((VCall P) g_slices_IndexFunc___int64_int64_ [AV.sl (Tag.par [0]) 0 (Cont.i IntKind.i64 xs), AV.fn F []] (AV.i IntKind.i64 (idxM p xs))) (T.leaf (AV.b (decide (idxM p xs ≥ 0)))))) :
    VCall P g_f [PI [0] xs, .fn F []] (.b (xs.any p)) := h_.call_of ps_slices_ContainsFunc___int64_int64_ ⟨oc_slices_ContainsFunc___int64_int64_ xs F p, fun _ _ => none⟩ (by kernel_rfl) ht

-- END slices_ContainsFunc___int64_int64_

-- FN slices_Index___int64_int64_
/-- slices.Index[[]int64,int64]: slots 19, results [.t 4]; calls []; names [(s, 0), (v, 1), (s, 2), (v, 3), (i, 5)] -/
def ps_slices_Index___int64_int64_ : List Nat := [0, 1, 4, 5, 7, 8, 9, 16]
def lv_slices_Index___int64_int64__L0 : List Nat := [0, 1, 7, 8]
def b_slices_Index___int64_int64__L0 : VCode :=
  (.seq
   (.region false [
    ⟨some 9, (.bin .lss), [.t 8, .t 7], none⟩])
   (.seq
    (.cond (.t 9)
     .skip
     (.exit 0))
    (.seq
     (.block 1
      (.seq
       (.region false [
        ⟨some 10, .mv, [.t 8], none⟩,
        ⟨some 5, .mv, [.t 10], none⟩])
       (.seq
        (.region false [
         ⟨some 11, .mv, [.t 1], none⟩,
         ⟨some 12, .mv, [.t 0], none⟩,
         ⟨some 13, .mv, [.t 5], none⟩,
         ⟨some 14, .iaddr, [.t 12, .t 13], none⟩,
         ⟨some 15, .load, [.t 14], none⟩,
         ⟨some 16, (.bin .eql), [.t 11, .t 15], none⟩])
        (.cond (.t 16)
         (.seq
          (.region false [
           ⟨some 17, .mv, [.t 5], none⟩,
           ⟨some 4, .mv, [.t 17], none⟩])
          .ret)
         .skip))))
     (.region false [
      ⟨some 18, (.bin .add), [.t 8, .k (.i .i64 1)], none⟩,
      ⟨some 8, .mv, [.t 18], none⟩]))))

def b_slices_Index___int64_int64_ : VCode :=
  (.seq
   (.region false [
    ⟨some 4, .mv, [.k (.i .i64 0)], none⟩])
   (.seq
    (.seq
     (.region false [
      ⟨some 6, .mv, [.t 0], none⟩,
      ⟨some 7, .len, [.t 6], none⟩,
      ⟨some 8, .mv, [.k (.i .i64 0)], none⟩])
     (.block 0 (.loop b_slices_Index___int64_int64__L0)))
    (.seq
     (.region false [
      ⟨some 4, .mv, [.k (.i .i64 (-1))], none⟩])
     .ret)))

abbrev Is_slices_Index___int64_int64_ (P : Program) (g_f : FuncId) : Prop := FnIs P g_f 19 [.t 4] (b_slices_Index___int64_int64_)

abbrev C_slices_Index___int64_int64_ (P : Program) (g_f : FuncId) : Prop := ∀ (xs : List Int) (v : Int) (hx : xs.length ≤ maxLen), VCall P g_f [PI [0] xs, .i .i64 v] (.i .i64 (idxM (fun x => v == x) xs))
def oc1_slices_Index___int64_int64_ (as : List AV) : T AV := match as with | [.sl _ _ (.i _ xs), .i .i64 v] => .leaf (.i .i64 (idxM (fun x => v == x) xs)) | _ => .fail
def h_slices_Index___int64_int64__L0 (xs : List Int) (v : Int) (v8 : Int) : Env := [AV.sl (Tag.par [0]) 0 (Cont.i IntKind.i64 xs), AV.i IntKind.i64 v] ++ anys 5 ++ [AV.i IntKind.i64 (↑(List.length xs) : Int), .i IntKind.i64 v8] ++ anys 10

theorem q_slices_Index___int64_int64__L0 {VC : FuncId → List AV → AV → Prop} (xs : List Int) (v : Int) (v8 : Int) {e_ : Ex} {σ_ : Env} (ht : T.ok (fun x_ => x_ = (e_, σ_)) (
      T.ite (decide (v8 < (↑(List.length xs) : Int)))
        (T.ob (0 ≤ v8 ∧ v8 < (↑(List.length xs) : Int))
          (T.ite (v == List.getD xs (Int.toNat v8) 0) (T.leaf (Ex.ret, anys 4 ++ AV.i IntKind.i64 v8 :: anys 14)) (T.leaf (Ex.normal, h_slices_Index___int64_int64__L0 xs v (IntKind.wrap IntKind.i64 (v8 + 1))))))
        (T.leaf (Ex.exit 0, h_slices_Index___int64_int64__L0 xs v v8)))) :
    Exec VC ps_slices_Index___int64_int64_ (b_slices_Index___int64_int64__L0) (h_slices_Index___int64_int64__L0 xs v v8) e_ σ_ := evL_of (lv := lv_slices_Index___int64_int64__L0) (rs := [4]) (O := ⟨fun _ _ => .fail, fun _ _ => none⟩) (by kernel_rfl) ht

theorem q_slices_Index___int64_int64_ {P : Program} {g_f : FuncId} (h_ : Is_slices_Index___int64_int64_ P g_f) (xs : List Int) (v : Int) (ht : T.ok (fun x_ => x_ = .i .i64 (idxM (fun x => v == x) xs)) (
      T.ite (decide (List.findIdx (fun (x : Int) => v == x) xs < List.length xs))
        (T.ob
          (Exec (VCall P) ps_slices_Index___int64_int64_ (VCode.block 0 (VCode.loop b_slices_Index___int64_int64__L0)) (h_slices_Index___int64_int64__L0 xs v 0) Ex.ret
            (anys 4 ++ AV.i IntKind.i64 (↑(List.findIdx (fun (x : Int) => v == x) xs) : Int) :: anys 14))
          (T.leaf (AV.i IntKind.i64 (↑(List.findIdx (fun (x : Int) => v == x) xs) : Int))))
        (T.ob
          (Exec (VCall P) ps_slices_Index___int64_int64_ (VCode.block 0 (VCode.loop b_slices_Index___int64_int64__L0)) (h_slices_Index___int64_int64__L0 xs v 0) Ex.normal
            (h_slices_Index___int64_int64__L0 xs v (↑(List.length xs) : Int)))
          (T.leaf (AV.i IntKind.i64 (-1)))))) :
    VCall P g_f [PI [0] xs, .i .i64 v] (.i .i64 (idxM (fun x => v == x) xs)) := h_.call_of ps_slices_Index___int64_int64_ ⟨fun _ _ => .fail, fun id σ => match id with | 0 => some (lv_slices_Index___int64_int64__L0, .ite (decide (xs.findIdx (fun x => v == x) < xs.length)) (.leaf (.ret, ret1 19 4 (.i .i64 (xs.findIdx (fun x => v == x))))) (.leaf (.normal, h_slices_Index___int64_int64__L0 xs v xs.length))) | _ => none⟩ (by kernel_rfl) ht

-- END slices_Index___int64_int64_

-- FN slices_Contains___int64_int64_
/-- slices.Contains[[]int64,int64]: slots 9, results [.t 4]; calls [7:g_slices_Index___int64_int64_]; names [(s, 0), (v, 1), (s, 2), (v, 3)] -/
def ps_slices_Contains___int64_int64_ : List Nat := [0, 1, 4]
def b_slices_Contains___int64_int64_ (g_slices_Index___int64_int64_ : FuncId) : VCode :=
  (.seq
   (.region false [
    ⟨some 4, .mv, [.k (.b false)], none⟩])
   (.seq
    (.region false [
     ⟨some 5, .mv, [.t 0], none⟩,
     ⟨some 6, .mv, [.t 1], none⟩,
     ⟨some 7, (.call g_slices_Index___int64_int64_), [.t 5, .t 6], none⟩,
     ⟨some 8, (.bin .geq), [.t 7, .k (.i .i64 0)], none⟩,
     ⟨some 4, .mv, [.t 8], none⟩])
    .ret))

abbrev Is_slices_Contains___int64_int64_ (P : Program) (g_f : FuncId) (g_slices_Index___int64_int64_ : FuncId) : Prop := FnIs P g_f 9 [.t 4] (b_slices_Contains___int64_int64_ g_slices_Index___int64_int64_)

abbrev C_slices_Contains___int64_int64_ (P : Program) (g_f : FuncId) : Prop := ∀ (xs : List Int) (v : Int) (hx : xs.length ≤ maxLen), VCall P g_f [PI [0] xs, .i .i64 v] (.b (xs.any fun x => v == x))
def oc1_slices_Contains___int64_int64_ (as : List AV) : T AV := match as with | [.sl _ _ (.i _ xs), .i .i64 v] => .leaf (.b (xs.any fun x => v == x)) | _ => .fail
def oc_slices_Contains___int64_int64_ (xs : List Int) (v : Int) (d : Nat) (as : List AV) : T AV := match d with | 7 => oc1_slices_Index___int64_int64_ as | _ => .fail



theorem q_slices_Contains___int64_int64_ {P : Program} {g_f : FuncId} {g_slices_Index___int64_int64_ : FuncId} (h_ : Is_slices_Contains___int64_int64_ P g_f g_slices_Index___int64_int64_) (xs : List Int) (v : Int) (ht : T.ok (fun x_ => x_ = .b (xs.any fun x => v == x)) (
      T.ob ((VCall P) g_slices_Index___int64_int64_ [AV.sl (Tag.par [0]) 0 (Cont.i IntKind.i64 xs), AV.i IntKind.i64 v] (AV.i IntKind.i64 (idxM (fun (x : Int) => v == x) xs)))
        (T.leaf (AV.b (decide (idxM (fun (x : Int) => v == x) xs ≥ 0)))))) :
    VCall P g_f [PI [0] xs, .i .i64 v] (.b (xs.any fun x => v == x)) := h_.call_of ps_slices_Contains___int64_int64_ ⟨oc_slices_Contains___int64_int64_ xs v, fun _ _ => none⟩ (by kernel_rfl) ht

-- END slices_Contains___int64_int64_

def upM (xs : List Int) : Bool := allN (xs.length - 1) fun i => decide (xs.getD i 0 < xs.getD (i + 1) 0)
def feastM (xs : List Int) : Bool := decide (xs.length ≤ 32) && (xs.all isDayM && upM xs)

-- FN impl_areFeasts_1
/-- impl.areFeasts$1: slots 6, results [.t 2]; calls [4:g_impl_isDay]; names [(n, 0), (n, 1)] -/
def ps_impl_areFeasts_1 : List Nat := [0, 2]
def b_impl_areFeasts_1 (g_impl_isDay : FuncId) : VCode :=
  (.seq
   (.region false [
    ⟨some 2, .mv, [.k (.b false)], none⟩])
   (.seq
    (.region false [
     ⟨some 3, .mv, [.t 0], none⟩,
     ⟨some 4, (.call g_impl_isDay), [.t 3], none⟩,
     ⟨some 5, .not, [.t 4], none⟩,
     ⟨some 2, .mv, [.t 5], none⟩])
    .ret))

abbrev Is_impl_areFeasts_1 (P : Program) (g_f : FuncId) (g_impl_isDay : FuncId) : Prop := FnIs P g_f 6 [.t 2] (b_impl_areFeasts_1 g_impl_isDay)

abbrev C_impl_areFeasts_1 (P : Program) (g_f : FuncId) : Prop := ∀ (n : Int), VCall P g_f [.i .i64 n] (.b (!isDayM n))
def oc1_impl_areFeasts_1 (as : List AV) : T AV := match as with | [.i .i64 n] => .leaf (.b (!isDayM n)) | _ => .fail
def oc_impl_areFeasts_1 (n : Int) (d : Nat) (as : List AV) : T AV := match d with | 4 => oc1_impl_isDay as | _ => .fail



theorem q_impl_areFeasts_1 {P : Program} {g_f : FuncId} {g_impl_isDay : FuncId} (h_ : Is_impl_areFeasts_1 P g_f g_impl_isDay) (n : Int) (ht : T.ok (fun x_ => x_ = .b (!isDayM n)) (
      T.ob ((VCall P) g_impl_isDay [AV.i IntKind.i64 n] (AV.b (isDayM n))) (T.leaf (AV.b !isDayM n)))) :
    VCall P g_f [.i .i64 n] (.b (!isDayM n)) := h_.call_of ps_impl_areFeasts_1 ⟨oc_impl_areFeasts_1 n, fun _ _ => none⟩ (by kernel_rfl) ht

-- END impl_areFeasts_1

-- FN impl_areFeasts
/-- impl.areFeasts: slots 27, results [.t 2]; calls [9:g_slices_ContainsFunc___int64_int64_]; names [(list, 0), (list, 1), (i, 3)] -/
def ps_impl_areFeasts : List Nat := [0, 2, 3, 10, 14, 26]
def lv_impl_areFeasts_L0 : List Nat := [0, 3]
def b_impl_areFeasts_L0 (g_slices_ContainsFunc___int64_int64_ g_impl_areFeasts_1 : FuncId) : VCode :=
  (.seq
   (.seq
    (.region false [
     ⟨some 11, .mv, [.t 3], none⟩,
     ⟨some 12, .mv, [.t 0], none⟩,
     ⟨some 13, .len, [.t 12], none⟩,
     ⟨some 14, (.bin .lss), [.t 11, .t 13], none⟩])
    (.cond (.t 14)
     .skip
     (.exit 0)))
   (.seq
    (.block 1
     (.seq
      (.region true [
       ⟨some 17, .mv, [.t 0], none⟩,
       ⟨some 18, .mv, [.t 3], none⟩,
       ⟨some 19, .iaddr, [.t 17, .t 18], none⟩,
       ⟨some 20, .load, [.t 19], none⟩,
       ⟨some 21, .mv, [.t 0], none⟩,
       ⟨some 22, .mv, [.t 3], none⟩,
       ⟨some 23, (.bin .sub), [.t 22, .k (.i .i64 1)], none⟩,
       ⟨some 24, .iaddr, [.t 21, .t 23], none⟩,
       ⟨some 25, .load, [.t 24], none⟩,
       ⟨some 26, (.bin .leq), [.t 20, .t 25], none⟩])
      (.cond (.t 26)
       (.seq
        (.region false [
         ⟨some 2, .mv, [.k (.b false)], none⟩])
        .ret)
       .skip)))
    (.region false [
     ⟨some 15, .mv, [.t 3], none⟩,
     ⟨some 16, (.bin .add), [.t 15, .k (.i .i64 1)], none⟩,
     ⟨some 3, .mv, [.t 16], none⟩])))

def b_impl_areFeasts (g_slices_ContainsFunc___int64_int64_ g_impl_areFeasts_1 : FuncId) : VCode :=
  (.seq
   (.region false [
    ⟨some 2, .mv, [.k (.b false)], none⟩])
   (.seq
    (.seq
     (.region false [
      ⟨some 4, .mv, [.t 0], none⟩,
      ⟨some 5, .len, [.t 4], none⟩,
      ⟨some 6, (.bin .gtr), [.t 5, .k (.i .i64 32)], none⟩,
      ⟨some 7, .mv, [.t 6], none⟩,
      ⟨some 8, .mv, [.t 0], some (7, false)⟩,
      ⟨some 9, (.call g_slices_ContainsFunc___int64_int64_), [.t 8, .k (.fn g_impl_areFeasts_1 [])], some (7, false)⟩,
      ⟨some 10, .pick, [.t 7, .k (.b true), .t 9], none⟩])
     (.cond (.t 10)
      (.seq
       (.region false [
        ⟨some 2, .mv, [.k (.b false)], none⟩])
       .ret)
      .skip))
    (.seq
     (.seq
      (.region false [
       ⟨some 3, .mv, [.k (.i .i64 1)], none⟩])
      (.block 0 (.loop (b_impl_areFeasts_L0 g_slices_ContainsFunc___int64_int64_ g_impl_areFeasts_1))))
     (.seq
      (.region false [
       ⟨some 2, .mv, [.k (.b true)], none⟩])
      .ret))))

abbrev Is_impl_areFeasts (P : Program) (g_f : FuncId) (g_slices_ContainsFunc___int64_int64_ g_impl_areFeasts_1 : FuncId) : Prop := FnIs P g_f 27 [.t 2] (b_impl_areFeasts g_slices_ContainsFunc___int64_int64_ g_impl_areFeasts_1)

abbrev C_impl_areFeasts (P : Program) (g_f : FuncId) : Prop := ∀ (xs : List Int) (hx : xs.length ≤ maxLen), VCall P g_f [PI [0] xs] (.b (feastM xs))
def oc1_impl_areFeasts (as : List AV) : T AV := match as with | [.sl _ _ (.i _ xs)] => .leaf (.b (feastM xs)) | _ => .fail
def oc_impl_areFeasts (xs : List Int) (d : Nat) (as : List AV) : T AV := match d with | 9 => .leaf (.b (xs.any fun n => !isDayM n)) | _ => .fail
def h_impl_areFeasts_L0 (xs : List Int) (i : Int) : Env := [AV.sl (Tag.par [0]) 0 (Cont.i IntKind.i64 xs), .any, .any, .i IntKind.i64 i] ++ anys 23

theorem q_impl_areFeasts_L0 {VC : FuncId → List AV → AV → Prop} {g_slices_ContainsFunc___int64_int64_ g_impl_areFeasts_1 : FuncId} (xs : List Int) (i : Int) {e_ : Ex} {σ_ : Env} (ht : T.ok (fun x_ => x_ = (e_, σ_)) (
      T.ite (decide (i < (↑(List.length xs) : Int)))
        (T.ob (0 ≤ i ∧ i < (↑(List.length xs) : Int))
          (T.ob (0 ≤ IntKind.wrap IntKind.i64 (i - 1) ∧ IntKind.wrap IntKind.i64 (i - 1) < (↑(List.length xs) : Int))
            (T.ite (decide (List.getD xs (Int.toNat i) 0 ≤ List.getD xs (Int.toNat (IntKind.wrap IntKind.i64 (i - 1))) 0)) (T.leaf (Ex.ret, AV.any :: AV.any :: AV.b false :: anys 24))
              (T.leaf (Ex.normal, h_impl_areFeasts_L0 xs (IntKind.wrap IntKind.i64 (i + 1)))))))
        (T.leaf (Ex.exit 0, h_impl_areFeasts_L0 xs i)))) :
    Exec VC ps_impl_areFeasts (b_impl_areFeasts_L0 g_slices_ContainsFunc___int64_int64_ g_impl_areFeasts_1) (h_impl_areFeasts_L0 xs i) e_ σ_ := evL_of (lv := lv_impl_areFeasts_L0) (rs := [2]) (O := ⟨oc_impl_areFeasts xs, fun _ _ => none⟩) (by kernel_rfl) ht

theorem q_impl_areFeasts {P : Program} {g_f : FuncId} {g_slices_ContainsFunc___int64_int64_ g_impl_areFeasts_1 : FuncId} (h_ : Is_impl_areFeasts P g_f g_slices_ContainsFunc___int64_int64_ g_impl_areFeasts_1) (xs : List Int) (ht : T.ok (fun x_ => x_ = .b (feastM xs)) (
      T.ite (decide ((↑(List.length xs) : Int) > 32)) (T.leaf (AV.b false))
        (T.ob ((VCall P) g_slices_ContainsFunc___int64_int64_ [AV.sl (Tag.par [0]) 0 (Cont.i IntKind.i64 xs), AV.fn g_impl_areFeasts_1 []] (AV.b (List.any xs fun (n : Int) => !isDayM n)))
          (T.ite (List.any xs fun (n : Int) => !isDayM n) (T.leaf (AV.b false))
            (T.ite (upM xs)
              (T.ob
                (Exec (VCall P) ps_impl_areFeasts (VCode.block 0 (VCode.loop (b_impl_areFeasts_L0 g_slices_ContainsFunc___int64_int64_ g_impl_areFeasts_1))) (h_impl_areFeasts_L0 xs 1) Ex.normal
                  (h_impl_areFeasts_L0 xs (1 + (↑(List.length xs - 1) : Int))))
                (T.leaf (AV.b true)))
              (T.ob
                (Exec (VCall P) ps_impl_areFeasts (VCode.block 0 (VCode.loop (b_impl_areFeasts_L0 g_slices_ContainsFunc___int64_int64_ g_impl_areFeasts_1))) (h_impl_areFeasts_L0 xs 1) Ex.ret
                  (AV.any :: AV.any :: AV.b false :: anys 24))
                (T.leaf (AV.b false)))))))) :
    VCall P g_f [PI [0] xs] (.b (feastM xs)) := h_.call_of ps_impl_areFeasts ⟨oc_impl_areFeasts xs, fun id σ => match id with | 0 => some (lv_impl_areFeasts_L0, .ite (upM xs) (.leaf (.normal, h_impl_areFeasts_L0 xs (1 + (xs.length - 1 : Nat)))) (.leaf (.ret, ret1 27 2 (.b false)))) | _ => none⟩ (by kernel_rfl) ht

-- END impl_areFeasts


def workM (xs : List Int) (n : Int) : Bool := decide (weekM n < 5) && !(xs.any fun x => n == x)

-- FN impl_works
/-- impl.works: slots 14, results [.t 4]; calls [6:g_impl_dayOfWeek, 11:g_slices_Contains___int64_int64_]; names [(n, 0), (feasts, 1), (n, 2), (feasts, 3)] -/
def ps_impl_works : List Nat := [0, 1, 4]
def b_impl_works (g_impl_dayOfWeek g_slices_Contains___int64_int64_ : FuncId) : VCode :=
  (.seq
   (.region false [
    ⟨some 4, .mv, [.k (.b false)], none⟩])
   (.seq
    (.region false [
     ⟨some 5, .mv, [.t 0], none⟩,
     ⟨some 6, (.call g_impl_dayOfWeek), [.t 5], none⟩,
     ⟨some 7, (.bin .lss), [.t 6, .k (.i .i64 5)], none⟩,
     ⟨some 8, .mv, [.t 7], none⟩,
     ⟨some 9, .mv, [.t 1], some (8, true)⟩,
     ⟨some 10, .mv, [.t 0], some (8, true)⟩,
     ⟨some 11, (.call g_slices_Contains___int64_int64_), [.t 9, .t 10], some (8, true)⟩,
     ⟨some 12, .not, [.t 11], some (8, true)⟩,
     ⟨some 13, .pick, [.t 8, .t 12, .k (.b false)], none⟩,
     ⟨some 4, .mv, [.t 13], none⟩])
    .ret))

abbrev Is_impl_works (P : Program) (g_f : FuncId) (g_impl_dayOfWeek g_slices_Contains___int64_int64_ : FuncId) : Prop := FnIs P g_f 14 [.t 4] (b_impl_works g_impl_dayOfWeek g_slices_Contains___int64_int64_)

abbrev C_impl_works (P : Program) (g_f : FuncId) : Prop := ∀ (n : Int) (xs : List Int) (hn : -9223372036854775808 ≤ n ∧ n ≤ 9223372036854775802) (hx : xs.length ≤ maxLen), VCall P g_f [.i .i64 n, PI [1] xs] (.b (workM xs n))
def oc1_impl_works (as : List AV) : T AV := match as with | [.i .i64 n, .sl _ _ (.i _ xs)] => .leaf (.b (workM xs n)) | _ => .fail
def oc_impl_works (n : Int) (xs : List Int) (d : Nat) (as : List AV) : T AV := match d with | 6 => oc1_impl_dayOfWeek as | 11 => oc1_slices_Contains___int64_int64_ as | _ => .fail



theorem q_impl_works {P : Program} {g_f : FuncId} {g_impl_dayOfWeek g_slices_Contains___int64_int64_ : FuncId} (h_ : Is_impl_works P g_f g_impl_dayOfWeek g_slices_Contains___int64_int64_) (n : Int) (xs : List Int) (ht : T.ok (fun x_ => x_ = .b (workM xs n)) (
      T.ob ((VCall P) g_impl_dayOfWeek [AV.i IntKind.i64 n] (AV.i IntKind.i64 (weekM n)))
        (T.ite (decide (weekM n < 5))
          (T.ob ((VCall P) g_slices_Contains___int64_int64_ [AV.sl (Tag.par [0]) 0 (Cont.i IntKind.i64 xs), AV.i IntKind.i64 n] (AV.b (List.any xs fun (x : Int) => n == x))) (T.leaf (AV.b !List.any xs fun (x : Int) => n == x)))
          (T.leaf (AV.b false))))) :
    VCall P g_f [.i .i64 n, PI [1] xs] (.b (workM xs n)) := h_.call_of ps_impl_works ⟨oc_impl_works n xs, fun _ _ => none⟩ (by kernel_rfl) ht

-- END impl_works


def one (b : Bool) : Int := if b = true then 1 else 0
/-- the work days among n days from a on -/
def wdM (xs : List Int) (a : Int) (n : Nat) : Int := sumN n fun i => one (workM xs (a + i))
def wdOk (xs : List Int) (a b : Int) : Bool := isDayM a && (isDayM b && (decide (a ≤ b) && feastM xs))
def wdLen (a b : Int) : Nat := (b - a + 1).toNat
def wdWeeks (a b : Int) : Int := (b - a).tdiv 7
/-- weekdays behind the weeks -/
def wdTail (a b : Int) : Int := sumN (b + 1 - (a + 7 * wdWeeks a b)).toNat fun i => one (decide (weekM (a + 7 * wdWeeks a b + i) < 5))
def wdFeast (xs : List Int) (a b : Int) (n : Nat) : Int := sumN n fun j => one (inM (xs.getD j 0) a b && decide (weekM (xs.getD j 0) < 5))

-- FN impl_WorkDays
/-- impl.WorkDays: slots 40, results [.t 6, .t 7]; calls [11:g_impl_isDay, 15:g_impl_isDay, 25:g_impl_areFeasts, 36:g_impl_works]; names [(from, 0), (to, 1), (feasts, 2), (from, 3), (to, 4), (feasts, 5), (count, 8), (n, 9)] -/
def ps_impl_WorkDays : List Nat := [0, 1, 2, 6, 7, 8, 9, 27, 31, 36]
def lv_impl_WorkDays_L0 : List Nat := [1, 2, 8, 9]
def b_impl_WorkDays_L0 (g_impl_isDay g_impl_areFeasts g_impl_works : FuncId) : VCode :=
  (.seq
   (.seq
    (.region false [
     ⟨some 29, .mv, [.t 9], none⟩,
     ⟨some 30, .mv, [.t 1], none⟩,
     ⟨some 31, (.bin .leq), [.t 29, .t 30], none⟩])
    (.cond (.t 31)
     .skip
     (.exit 0)))
   (.seq
    (.block 1
     (.seq
      (.region false [
       ⟨some 34, .mv, [.t 9], none⟩,
       ⟨some 35, .mv, [.t 2], none⟩,
       ⟨some 36, (.call g_impl_works), [.t 34, .t 35], none⟩])
      (.cond (.t 36)
       (.region false [
        ⟨some 37, .mv, [.t 8], none⟩,
        ⟨some 38, (.bin .add), [.t 37, .k (.i .i64 1)], none⟩,
        ⟨some 8, .mv, [.t 38], none⟩])
       .skip)))
    (.region false [
     ⟨some 32, .mv, [.t 9], none⟩,
     ⟨some 33, (.bin .add), [.t 32, .k (.i .i64 1)], none⟩,
     ⟨some 9, .mv, [.t 33], none⟩])))

def b_impl_WorkDays (g_impl_isDay g_impl_areFeasts g_impl_works : FuncId) : VCode :=
  (.seq
   (.region false [
    ⟨some 6, .mv, [.k (.i .i64 0)], none⟩,
    ⟨some 7, .mv, [.k (.b false)], none⟩])
   (.seq
    (.seq
     (.region false [
      ⟨some 10, .mv, [.t 0], none⟩,
      ⟨some 11, (.call g_impl_isDay), [.t 10], none⟩,
      ⟨some 12, .not, [.t 11], none⟩,
      ⟨some 13, .mv, [.t 12], none⟩,
      ⟨some 14, .mv, [.t 1], some (13, false)⟩,
      ⟨some 15, (.call g_impl_isDay), [.t 14], some (13, false)⟩,
      ⟨some 16, .not, [.t 15], some (13, false)⟩,
      ⟨some 17, .pick, [.t 13, .k (.b true), .t 16], none⟩,
      ⟨some 18, .mv, [.t 17], none⟩,
      ⟨some 19, .mv, [.t 0], some (18, false)⟩,
      ⟨some 20, .mv, [.t 1], some (18, false)⟩,
      ⟨some 21, (.bin .gtr), [.t 19, .t 20], some (18, false)⟩,
      ⟨some 22, .pick, [.t 18, .k (.b true), .t 21], none⟩,
      ⟨some 23, .mv, [.t 22], none⟩,
      ⟨some 24, .mv, [.t 2], some (23, false)⟩,
      ⟨some 25, (.call g_impl_areFeasts), [.t 24], some (23, false)⟩,
      ⟨some 26, .not, [.t 25], some (23, false)⟩,
      ⟨some 27, .pick, [.t 23, .k (.b true), .t 26], none⟩])
     (.cond (.t 27)
      (.seq
       (.region false [
        ⟨some 6, .mv, [.k (.i .i64 0)], none⟩,
        ⟨some 7, .mv, [.k (.b false)], none⟩])
       .ret)
      .skip))
    (.seq
     (.region false [
      ⟨some 8, .mv, [.k (.i .i64 0)], none⟩])
     (.seq
      (.seq
       (.region false [
        ⟨some 28, .mv, [.t 0], none⟩,
        ⟨some 9, .mv, [.t 28], none⟩])
       (.block 0 (.loop (b_impl_WorkDays_L0 g_impl_isDay g_impl_areFeasts g_impl_works))))
      (.seq
       (.region false [
        ⟨some 39, .mv, [.t 8], none⟩,
        ⟨some 6, .mv, [.t 39], none⟩,
        ⟨some 7, .mv, [.k (.b true)], none⟩])
       .ret)))))

abbrev Is_impl_WorkDays (P : Program) (g_f : FuncId) (g_impl_isDay g_impl_areFeasts g_impl_works : FuncId) : Prop := FnIs P g_f 40 [.t 6, .t 7] (b_impl_WorkDays g_impl_isDay g_impl_areFeasts g_impl_works)

abbrev C_impl_WorkDays (P : Program) (g_f : FuncId) : Prop := ∀ (a : Int) (b : Int) (xs : List Int) (hx : xs.length ≤ maxLen), VCall P g_f [.i .i64 a, .i .i64 b, PI [2] xs] (.tup [.i .i64 (if wdOk xs a b = true then wdM xs a (wdLen a b) else 0), .b (wdOk xs a b)])
def oc1_impl_WorkDays (as : List AV) : T AV := match as with | [.i .i64 a, .i .i64 b, .sl _ _ (.i _ xs)] => .leaf (.tup [.i .i64 (if wdOk xs a b = true then wdM xs a (wdLen a b) else 0), .b (wdOk xs a b)]) | _ => .fail
def oc_impl_WorkDays (a : Int) (b : Int) (xs : List Int) (d : Nat) (as : List AV) : T AV := match d with | 11 => oc1_impl_isDay as | 15 => oc1_impl_isDay as | 25 => oc1_impl_areFeasts as | 36 => oc1_impl_works as | _ => .fail
def h_impl_WorkDays_L0 (a : Int) (b : Int) (xs : List Int) (count : Int) (n : Int) : Env := [.any, AV.i IntKind.i64 b, AV.sl (Tag.par [2]) 0 (Cont.i IntKind.i64 xs)] ++ anys 5 ++ [.i IntKind.i64 count, .i IntKind.i64 n] ++ anys 30

theorem q_impl_WorkDays_L0 {VC : FuncId → List AV → AV → Prop} {g_impl_isDay g_impl_areFeasts g_impl_works : FuncId} (a : Int) (b : Int) (xs : List Int) (count : Int) (n : Int) {e_ : Ex} {σ_ : Env} (ht : T.ok (fun x_ => x_ = (e_, σ_)) (
      T.ite (decide (n ≤ b))
        (T.ob (VC g_impl_works [AV.i IntKind.i64 n, AV.sl (Tag.par [1]) 0 (Cont.i IntKind.i64 xs)] (AV.b (workM xs n)))
          (T.ite (workM xs n) (T.leaf (Ex.normal, h_impl_WorkDays_L0 a b xs (IntKind.wrap IntKind.i64 (count + 1)) (IntKind.wrap IntKind.i64 (n + 1))))
            (T.leaf (Ex.normal, h_impl_WorkDays_L0 a b xs count (IntKind.wrap IntKind.i64 (n + 1))))))
        (T.leaf (Ex.exit 0, h_impl_WorkDays_L0 a b xs count n)))) :
    Exec VC ps_impl_WorkDays (b_impl_WorkDays_L0 g_impl_isDay g_impl_areFeasts g_impl_works) (h_impl_WorkDays_L0 a b xs count n) e_ σ_ := evL_of (lv := lv_impl_WorkDays_L0) (rs := [6, 7]) (O := ⟨oc_impl_WorkDays a b xs, fun _ _ => none⟩) (by kernel_rfl) ht

theorem q_impl_WorkDays {P : Program} {g_f : FuncId} {g_impl_isDay g_impl_areFeasts g_impl_works : FuncId} (h_ : Is_impl_WorkDays P g_f g_impl_isDay g_impl_areFeasts g_impl_works) (a : Int) (b : Int) (xs : List Int) (ht : T.ok (fun x_ => x_ = .tup [.i .i64 (if wdOk xs a b = true then wdM xs a (wdLen a b) else 0), .b (wdOk xs a b)]) (
      T.ob ((VCall P) g_impl_isDay [AV.i IntKind.i64 a] (AV.b (isDayM a)))
        (T.ite (!isDayM a) (T.leaf (AV.tup [AV.i IntKind.i64 0, AV.b false]))
          (T.ob ((VCall P) g_impl_isDay [AV.i IntKind.i64 b] (AV.b (isDayM b)))
            (T.ite (!isDayM b) (T.leaf (AV.tup [AV.i IntKind.i64 0, AV.b false]))
              (T.ite (decide (a > b)) (T.leaf (AV.tup [AV.i IntKind.i64 0, AV.b false]))
                (T.ob ((VCall P) g_impl_areFeasts [AV.sl (Tag.par [0]) 0 (Cont.i IntKind.i64 xs)] (AV.b (feastM xs)))
                  (T.ite (!feastM xs) (T.leaf (AV.tup [AV.i IntKind.i64 0, AV.b false]))
                    (T.ob
                      (Exec (VCall P) ps_impl_WorkDays (VCode.block 0 (VCode.loop (b_impl_WorkDays_L0 g_impl_isDay g_impl_areFeasts g_impl_works))) (h_impl_WorkDays_L0 a b xs 0 a) Ex.normal
                        (h_impl_WorkDays_L0 a b xs (wdM xs a (wdLen a b)) (b + 1)))
                      (T.leaf (AV.tup [AV.i IntKind.i64 (wdM xs a (wdLen a b)), AV.b true]))))))))))) :
    VCall P g_f [.i .i64 a, .i .i64 b, PI [2] xs] (.tup [.i .i64 (if wdOk xs a b = true then wdM xs a (wdLen a b) else 0), .b (wdOk xs a b)]) := h_.call_of ps_impl_WorkDays ⟨oc_impl_WorkDays a b xs, fun id σ => match id with | 0 => some (lv_impl_WorkDays_L0, .leaf (.normal, h_impl_WorkDays_L0 a b xs (wdM xs a (wdLen a b)) (b + 1))) | _ => none⟩ (by kernel_rfl) ht

-- END impl_WorkDays


/-- how many days on -/
def wbJ (xs : List Int) (n c : Int) : Nat := (List.range 2101).findIdx fun j => decide (c ≤ wdM xs (n + 1) j)
def wbOk (xs : List Int) (n c : Int) : Bool := isDayM n && (inM c 1 1000 && (feastM xs && isDayM (n + wbJ xs n c)))

-- FN impl_WorkDayBehind
/-- impl.WorkDayBehind: slots 34, results [.t 6, .t 7]; calls [9:g_impl_isDay, 13:g_impl_within, 18:g_impl_areFeasts, 26:g_impl_isDay, 30:g_impl_works]; names [(n, 0), (count, 1), (feasts, 2), (n, 3), (count, 4), (feasts, 5)] -/
def ps_impl_WorkDayBehind : List Nat := [0, 1, 2, 6, 7, 20, 22, 27, 30]
def lv_impl_WorkDayBehind_L0 : List Nat := [0, 1, 2]
def b_impl_WorkDayBehind_L0 (g_impl_isDay g_impl_within g_impl_areFeasts g_impl_works : FuncId) : VCode :=
  (.seq
   (.seq
    (.region false [
     ⟨some 21, .mv, [.t 1], none⟩,
     ⟨some 22, (.bin .gtr), [.t 21, .k (.i .i64 0)], none⟩])
    (.cond (.t 22)
     .skip
     (.exit 0)))
   (.block 1
    (.seq
     (.region false [
      ⟨some 23, .mv, [.t 0], none⟩,
      ⟨some 24, (.bin .add), [.t 23, .k (.i .i64 1)], none⟩,
      ⟨some 0, .mv, [.t 24], none⟩])
     (.seq
      (.seq
       (.region false [
        ⟨some 25, .mv, [.t 0], none⟩,
        ⟨some 26, (.call g_impl_isDay), [.t 25], none⟩,
        ⟨some 27, .not, [.t 26], none⟩])
       (.cond (.t 27)
        (.seq
         (.region false [
          ⟨some 6, .mv, [.k (.i .i64 0)], none⟩,
          ⟨some 7, .mv, [.k (.b false)], none⟩])
         .ret)
        .skip))
      (.seq
       (.region false [
        ⟨some 28, .mv, [.t 0], none⟩,
        ⟨some 29, .mv, [.t 2], none⟩,
        ⟨some 30, (.call g_impl_works), [.t 28, .t 29], none⟩])
       (.cond (.t 30)
        (.region false [
         ⟨some 31, .mv, [.t 1], none⟩,
         ⟨some 32, (.bin .sub), [.t 31, .k (.i .i64 1)], none⟩,
         ⟨some 1, .mv, [.t 32], none⟩])
        .skip))))))

def b_impl_WorkDayBehind (g_impl_isDay g_impl_within g_impl_areFeasts g_impl_works : FuncId) : VCode :=
  (.seq
   (.region false [
    ⟨some 6, .mv, [.k (.i .i64 0)], none⟩,
    ⟨some 7, .mv, [.k (.b false)], none⟩])
   (.seq
    (.seq
     (.region false [
      ⟨some 8, .mv, [.t 0], none⟩,
      ⟨some 9, (.call g_impl_isDay), [.t 8], none⟩,
      ⟨some 10, .not, [.t 9], none⟩,
      ⟨some 11, .mv, [.t 10], none⟩,
      ⟨some 12, .mv, [.t 1], some (11, false)⟩,
      ⟨some 13, (.call g_impl_within), [.t 12, .k (.i .i64 1), .k (.i .i64 1000)], some (11, false)⟩,
      ⟨some 14, .not, [.t 13], some (11, false)⟩,
      ⟨some 15, .pick, [.t 11, .k (.b true), .t 14], none⟩,
      ⟨some 16, .mv, [.t 15], none⟩,
      ⟨some 17, .mv, [.t 2], some (16, false)⟩,
      ⟨some 18, (.call g_impl_areFeasts), [.t 17], some (16, false)⟩,
      ⟨some 19, .not, [.t 18], some (16, false)⟩,
      ⟨some 20, .pick, [.t 16, .k (.b true), .t 19], none⟩])
     (.cond (.t 20)
      (.seq
       (.region false [
        ⟨some 6, .mv, [.k (.i .i64 0)], none⟩,
        ⟨some 7, .mv, [.k (.b false)], none⟩])
       .ret)
      .skip))
    (.seq
     (.block 0 (.loop (b_impl_WorkDayBehind_L0 g_impl_isDay g_impl_within g_impl_areFeasts g_impl_works)))
     (.seq
      (.region false [
       ⟨some 33, .mv, [.t 0], none⟩,
       ⟨some 6, .mv, [.t 33], none⟩,
       ⟨some 7, .mv, [.k (.b true)], none⟩])
      .ret))))

abbrev Is_impl_WorkDayBehind (P : Program) (g_f : FuncId) (g_impl_isDay g_impl_within g_impl_areFeasts g_impl_works : FuncId) : Prop := FnIs P g_f 34 [.t 6, .t 7] (b_impl_WorkDayBehind g_impl_isDay g_impl_within g_impl_areFeasts g_impl_works)

abbrev C_impl_WorkDayBehind (P : Program) (g_f : FuncId) : Prop := ∀ (n : Int) (c : Int) (xs : List Int) (hx : xs.length ≤ maxLen), VCall P g_f [.i .i64 n, .i .i64 c, PI [2] xs] (.tup [.i .i64 (if wbOk xs n c = true then n + wbJ xs n c else 0), .b (wbOk xs n c)])
def oc1_impl_WorkDayBehind (as : List AV) : T AV := match as with | [.i .i64 n, .i .i64 c, .sl _ _ (.i _ xs)] => .leaf (.tup [.i .i64 (if wbOk xs n c = true then n + wbJ xs n c else 0), .b (wbOk xs n c)]) | _ => .fail
def oc_impl_WorkDayBehind (n : Int) (c : Int) (xs : List Int) (d : Nat) (as : List AV) : T AV := match d with | 9 => oc1_impl_isDay as | 13 => oc1_impl_within as | 18 => oc1_impl_areFeasts as | 26 => oc1_impl_isDay as | 30 => oc1_impl_works as | _ => .fail
def h_impl_WorkDayBehind_L0 (n : Int) (c : Int) (xs : List Int) (n2 : Int) (count : Int) : Env := [.i IntKind.i64 n2, .i IntKind.i64 count, AV.sl (Tag.par [2]) 0 (Cont.i IntKind.i64 xs)] ++ anys 31

theorem q_impl_WorkDayBehind_L0 {VC : FuncId → List AV → AV → Prop} {g_impl_isDay g_impl_within g_impl_areFeasts g_impl_works : FuncId} (n : Int) (c : Int) (xs : List Int) (n2 : Int) (count : Int) {e_ : Ex} {σ_ : Env} (ht : T.ok (fun x_ => x_ = (e_, σ_)) (
      T.ite (decide (count > 0))
        (T.ob (VC g_impl_isDay [AV.i IntKind.i64 (IntKind.wrap IntKind.i64 (n2 + 1))] (AV.b (isDayM (IntKind.wrap IntKind.i64 (n2 + 1)))))
          (T.ite (!isDayM (IntKind.wrap IntKind.i64 (n2 + 1))) (T.leaf (Ex.ret, anys 6 ++ AV.i IntKind.i64 0 :: AV.b false :: anys 26))
            (T.ob (VC g_impl_works [AV.i IntKind.i64 (IntKind.wrap IntKind.i64 (n2 + 1)), AV.sl (Tag.par [1]) 0 (Cont.i IntKind.i64 xs)] (AV.b (workM xs (IntKind.wrap IntKind.i64 (n2 + 1)))))
              (T.ite (workM xs (IntKind.wrap IntKind.i64 (n2 + 1))) (T.leaf (Ex.normal, h_impl_WorkDayBehind_L0 n c xs (IntKind.wrap IntKind.i64 (n2 + 1)) (IntKind.wrap IntKind.i64 (count - 1))))
                (T.leaf (Ex.normal, h_impl_WorkDayBehind_L0 n c xs (IntKind.wrap IntKind.i64 (n2 + 1)) count))))))
        (T.leaf (Ex.exit 0, h_impl_WorkDayBehind_L0 n c xs n2 count)))) :
    Exec VC ps_impl_WorkDayBehind (b_impl_WorkDayBehind_L0 g_impl_isDay g_impl_within g_impl_areFeasts g_impl_works) (h_impl_WorkDayBehind_L0 n c xs n2 count) e_ σ_ := evL_of (lv := lv_impl_WorkDayBehind_L0) (rs := [6, 7]) (O := ⟨oc_impl_WorkDayBehind n c xs, fun _ _ => none⟩) (by kernel_rfl) ht

theorem q_impl_WorkDayBehind {P : Program} {g_f : FuncId} {g_impl_isDay g_impl_within g_impl_areFeasts g_impl_works : FuncId} (h_ : Is_impl_WorkDayBehind P g_f g_impl_isDay g_impl_within g_impl_areFeasts g_impl_works) (n : Int) (c : Int) (xs : List Int) (ht : T.ok (fun x_ => x_ = .tup [.i .i64 (if wbOk xs n c = true then n + wbJ xs n c else 0), .b (wbOk xs n c)]) (
      T.ob ((VCall P) g_impl_isDay [AV.i IntKind.i64 n] (AV.b (isDayM n)))
        (T.ite (!isDayM n) (T.leaf (AV.tup [AV.i IntKind.i64 0, AV.b false]))
          (T.ob ((VCall P) g_impl_within [AV.i IntKind.i64 c, AV.i IntKind.i64 1, AV.i IntKind.i64 1000] (AV.b (inM c 1 1000)))
            (T.ite (!inM c 1 1000) (T.leaf (AV.tup [AV.i IntKind.i64 0, AV.b false]))
              (T.ob ((VCall P) g_impl_areFeasts [AV.sl (Tag.par [0]) 0 (Cont.i IntKind.i64 xs)] (AV.b (feastM xs)))
                (T.ite (!feastM xs) (T.leaf (AV.tup [AV.i IntKind.i64 0, AV.b false]))
                  (T.ite (isDayM (n + (↑(wbJ xs n c) : Int)))
                    (T.ob
                      (Exec (VCall P) ps_impl_WorkDayBehind (VCode.block 0 (VCode.loop (b_impl_WorkDayBehind_L0 g_impl_isDay g_impl_within g_impl_areFeasts g_impl_works))) (h_impl_WorkDayBehind_L0 n c xs n c) Ex.normal
                        (h_impl_WorkDayBehind_L0 n c xs (n + (↑(wbJ xs n c) : Int)) 0))
                      (T.leaf (AV.tup [AV.i IntKind.i64 (n + (↑(wbJ xs n c) : Int)), AV.b true])))
                    (T.ob
                      (Exec (VCall P) ps_impl_WorkDayBehind (VCode.block 0 (VCode.loop (b_impl_WorkDayBehind_L0 g_impl_isDay g_impl_within g_impl_areFeasts g_impl_works))) (h_impl_WorkDayBehind_L0 n c xs n c) Ex.ret
                        (anys 6 ++ AV.i IntKind.i64 0 :: AV.b false :: anys 26))
                      (T.leaf (AV.tup [AV.i IntKind.i64 0, AV.b false]))))))))))) :
    VCall P g_f [.i .i64 n, .i .i64 c, PI [2] xs] (.tup [.i .i64 (if wbOk xs n c = true then n + wbJ xs n c else 0), .b (wbOk xs n c)]) := h_.call_of ps_impl_WorkDayBehind ⟨oc_impl_WorkDayBehind n c xs, fun id σ => match id with | 0 => some (lv_impl_WorkDayBehind_L0, .ite (isDayM (n + wbJ xs n c)) (.leaf (.normal, h_impl_WorkDayBehind_L0 n c xs (n + wbJ xs n c) 0)) (.leaf (.ret, anys 6 ++ .i .i64 0 :: .b false :: anys 26))) | _ => none⟩ (by kernel_rfl) ht

-- END impl_WorkDayBehind




theorem leap_ite (y : Int) : (T.ite (leapM y) (T.leaf (AV.i .i64 366)) (T.leaf (AV.i .i64 365))).ok (fun x => x = .i .i64 (longM y)) := ⟨fun h => by simp [T.ok, longM, h], fun h => by simp [T.ok, longM, h]⟩
theorem k_impl_leaps {P : Program} {f : FuncId} (h : Is_impl_leaps P f) : C_impl_leaps P f := by
  intro y
  refine q_impl_leaps h y ?_
  repeat' (first | with_reducible refine T.ok_ob ?_ (fun _ => ?_) | with_reducible refine T.ok_ite (fun _ => ?_) (fun _ => ?_) | with_reducible refine T.ok_leaf ?_)
  all_goals first | with_reducible rfl | with_reducible assumption | contradiction | exact fconvOk_32_64 _ | assumption | exact rfl | (simp_all [leapM]; done) | (simp_all [T.ok, leapM]; omega)

theorem long_bound (y : Int) : -366 ≤ longM y ∧ longM y ≤ 366 := by unfold longM; split <;> omega
theorem long_sum (f : Nat → Int) (n : Nat) (h : n ≤ 300) : -109800 ≤ sumN n (fun i => longM (f i)) ∧ sumN n (fun i => longM (f i)) ≤ 109800 := by
  have := sumN_bound (B := 366) (f := fun i => longM (f i)) (by omega) n (fun i _ => long_bound _)
  omega
theorem sumN_rev (g : Nat → Int) : ∀ m, (sumN m fun j => g (m - 1 - j)) = sumN m g := by
  have sh : ∀ (g : Nat → Int) m, sumN (m + 1) g = g 0 + sumN m (fun i => g (i + 1)) := by
    intro g m
    induction m with
    | zero => simp [sumN]
    | succ m ih => rw [sumN, ih]; simp only [sumN]; omega
  intro m
  induction m with
  | zero => rfl
  | succ m ih =>
    rw [sh]
    show g (m + 1 - 1 - 0) + (sumN m fun j => g (m + 1 - 1 - (j + 1))) = sumN m g + g m
    rw [← ih, show m + 1 - 1 - 0 = m by omega]
    have : (sumN m fun j => g (m + 1 - 1 - (j + 1))) = sumN m fun j => g (m - 1 - j) := sumN_congr m fun i hi => by rw [show m + 1 - 1 - (i + 1) = m - 1 - i by omega]
    omega
theorem k_impl_newYear {P : Program} {f g : FuncId} (h : Is_impl_newYear P f g) (c1 : C_impl_leaps P g) : C_impl_newYear P f := by
  intro y hy
  have b1 := fun m h => long_sum (fun i => (2000 : Int) + i) m h
  have b2 := fun m h => long_sum (fun i => (1999 : Int) - i) m h
  refine q_impl_newYear h y ⟨?_, fun _ => ⟨?_, fun _ => rfl⟩⟩
  · refine for_up (e := .exit 0) (y - 2000).toNat (fun i => h_impl_newYear_L0 y (sumN i fun i => longM (2000 + i)) (2000 + i)) rfl (fun i hi => ?_) ?_
    · refine q_impl_newYear_L0 _ _ _ ?_
      have e : (sumN (i + 1) fun i => longM (2000 + (i : Int))) = (sumN i fun i => longM (2000 + (i : Int))) + longM (2000 + i) := rfl
      have := b1 i (by omega)
      simp only [e]
      generalize (sumN i fun i => longM (2000 + (i : Int))) = S at *
      have a := c1 (2000 + i)
      unfold longM
      cases hl : leapM (2000 + (i : Int)) <;> rw [hl] at a <;> simp only [Bool.false_eq_true, if_false, if_true]
      repeat' (first | with_reducible refine T.ok_ob ?_ (fun _ => ?_) | with_reducible refine T.ok_ite (fun _ => ?_) (fun _ => ?_) | with_reducible refine T.ok_leaf ?_)
      all_goals (try simp only [decide_eq_true_eq, decide_eq_false_iff_not, Bool.not_eq_true', Bool.not_eq_false', Bool.not_eq_eq_eq_not, Bool.not_true, Bool.not_false, Int.toNat_natCast, tab_len, List.length_append, List.length_singleton, List.length_cons, List.length_nil, List.length_drop, List.length_take, getD_drop', getD_nat, reduceCtorEq] at *)
      all_goals (try simp (disch := omega) only [wrap64_id] at *)
      all_goals first | omega | (exfalso; omega) | exact True.intro | skip
      all_goals first | exact a | (rw [show (2000 : Int) + i + 1 = 2000 + (i + 1 : Nat) by omega]; done) | (rw [show (2000 : Int) + i + 1 = 2000 + (i + 1 : Nat) by omega, show S + 365 + 1 = S + 366 by omega]; done)
    · refine q_impl_newYear_L0 _ _ _ ?_
      repeat' (first | with_reducible refine T.ok_ob ?_ (fun _ => ?_) | with_reducible refine T.ok_ite (fun _ => ?_) (fun _ => ?_) | with_reducible refine T.ok_leaf ?_)
      all_goals (try simp only [decide_eq_true_eq, decide_eq_false_iff_not, Bool.not_eq_true', Bool.not_eq_false', Bool.not_eq_eq_eq_not, Bool.not_true, Bool.not_false, Int.toNat_natCast, tab_len, List.length_append, List.length_singleton, List.length_cons, List.length_nil, List.length_drop, List.length_take, getD_drop', getD_nat, reduceCtorEq] at *)
      all_goals (try simp (disch := omega) only [wrap64_id] at *)
      all_goals first | omega | (exfalso; omega) | exact True.intro | skip
      all_goals rfl
  · have hb := b1 (y - 2000).toNat (by omega)
    unfold yearM
    generalize (sumN (y - 2000).toNat fun i => longM (2000 + (i : Int))) = A at *
    refine for_up (e := .exit 2) (2000 - y).toNat (fun i => h_impl_newYear_L2 y (A - sumN i fun i => longM (1999 - i)) (1999 - i)) (by simp [sumN]) (fun i hi => ?_) ?_
    · refine q_impl_newYear_L2 _ _ _ ?_
      have e : (sumN (i + 1) fun i => longM (1999 - (i : Int))) = (sumN i fun i => longM (1999 - (i : Int))) + longM (1999 - i) := rfl
      have := b2 i (by omega)
      simp only [e]
      generalize (sumN i fun i => longM (1999 - (i : Int))) = S at *
      have a := c1 (1999 - i)
      unfold longM
      cases hl : leapM (1999 - (i : Int)) <;> rw [hl] at a <;> simp only [Bool.false_eq_true, if_false, if_true]
      repeat' (first | with_reducible refine T.ok_ob ?_ (fun _ => ?_) | with_reducible refine T.ok_ite (fun _ => ?_) (fun _ => ?_) | with_reducible refine T.ok_leaf ?_)
      all_goals (try simp only [decide_eq_true_eq, decide_eq_false_iff_not, Bool.not_eq_true', Bool.not_eq_false', Bool.not_eq_eq_eq_not, Bool.not_true, Bool.not_false, Int.toNat_natCast, tab_len, List.length_append, List.length_singleton, List.length_cons, List.length_nil, List.length_drop, List.length_take, getD_drop', getD_nat, reduceCtorEq] at *)
      all_goals (try simp (disch := omega) only [wrap64_id] at *)
      all_goals first | omega | (exfalso; omega) | exact True.intro | skip
      all_goals first | exact a | (rw [show (1999 : Int) - i - 1 = 1999 - (i + 1 : Nat) by omega, show A - S - 365 - 1 = A - (S + 366) by omega]; done) | (rw [show (1999 : Int) - i - 1 = 1999 - (i + 1 : Nat) by omega, show A - S - 365 = A - (S + 365) by omega]; done)
    · refine q_impl_newYear_L2 _ _ _ ?_
      repeat' (first | with_reducible refine T.ok_ob ?_ (fun _ => ?_) | with_reducible refine T.ok_ite (fun _ => ?_) (fun _ => ?_) | with_reducible refine T.ok_leaf ?_)
      all_goals (try simp only [decide_eq_true_eq, decide_eq_false_iff_not, Bool.not_eq_true', Bool.not_eq_false', Bool.not_eq_eq_eq_not, Bool.not_true, Bool.not_false, Int.toNat_natCast, tab_len, List.length_append, List.length_singleton, List.length_cons, List.length_nil, List.length_drop, List.length_take, getD_drop', getD_nat, reduceCtorEq] at *)
      all_goals (try simp (disch := omega) only [wrap64_id] at *)
      all_goals first | omega | (exfalso; omega) | exact True.intro | skip
      all_goals rfl
theorem k_impl_isDay {P : Program} {f g1 g2 : FuncId} (h : Is_impl_isDay P f g1 g2) (c1 : C_impl_newYear P g1) (c2 : C_impl_within P g2) : C_impl_isDay P f := by
  intro n
  have e1 : yearM 1900 = -36524 := by decide +kernel
  have e2 : yearM 2200 = 73049 := by decide +kernel
  exact q_impl_isDay h n ⟨e1 ▸ c1 1900 (by omega), fun _ => ⟨e2 ▸ c1 2200 (by omega), fun _ => ⟨c2 _ _ _, fun _ => rfl⟩⟩⟩
theorem tmod7 (m : Int) : -7 < m.tmod 7 ∧ m.tmod 7 < 7 ∧ m.tmod 7 + 7 * m.tdiv 7 = m := by
  have h1 := Int.tmod_add_mul_tdiv m 7
  have h2 := Int.tmod_lt_of_pos m (show (0 : Int) < 7 by omega)
  have h3 := Int.tmod_lt_of_pos (-m) (show (0 : Int) < 7 by omega)
  rw [Int.neg_tmod] at h3
  omega
theorem week_eq (n : Int) : weekM n = (n + 5) % 7 := by
  unfold weekM
  obtain ⟨h1, h2, h3⟩ := tmod7 (n + 5)
  generalize (n + 5).tmod 7 = t at *
  rw [Int.tmod_eq_emod_of_nonneg (by omega)]
  omega
theorem k_impl_dayOfWeek {P : Program} {f : FuncId} (h : Is_impl_dayOfWeek P f) : C_impl_dayOfWeek P f := by
  intro n hn
  refine q_impl_dayOfWeek h n ?_
  have := tmod7 (n + 5)
  rw [wrap64_id (n := n + 5) (by omega) (by omega), wrap64_id (by omega) (by omega)]
  refine ⟨by omega, fun _ => ⟨by omega, fun _ => rfl⟩⟩
  repeat' (first | with_reducible refine T.ok_ob ?_ (fun _ => ?_) | with_reducible refine T.ok_ite (fun _ => ?_) (fun _ => ?_) | with_reducible refine T.ok_leaf ?_)
  all_goals first | with_reducible rfl | with_reducible assumption | contradiction | exact fconvOk_32_64 _ | assumption | exact rfl | (simp_all []; done) | (simp_all [T.ok]; omega)

theorem k_slices_IndexFunc___int64_int64_ {P : Program} {f : FuncId} (h : Is_slices_IndexFunc___int64_int64_ P f) : C_slices_IndexFunc___int64_int64_ P f := by
  intro xs F p hF hx
  have hm := ml64 hx
  have step : ∀ i, i < xs.length → p (xs.getD i 0) = false → Exec (VCall P) ps_slices_IndexFunc___int64_int64_ b_slices_IndexFunc___int64_int64__L0 (h_slices_IndexFunc___int64_int64__L0 xs F p i) .normal (h_slices_IndexFunc___int64_int64__L0 xs F p (i + 1 : Nat)) := by
    intro i hi hp
    refine q_slices_IndexFunc___int64_int64__L0 _ _ _ _ ⟨fun _ => ⟨by omega, fun _ => ⟨hF _, fun _ => ⟨fun h => ?_, fun _ => ?_⟩⟩⟩, fun h => absurd (of_decide_eq_false h) (by omega)⟩
    · rw [getD_nat, hp] at h; cases h
    · show _ = _
      rw [wrap64_id (by omega) (by omega)]; rfl
  refine q_slices_IndexFunc___int64_int64_ h xs F p ⟨fun hlt => ⟨?_, fun _ => ?_⟩, fun hge => ⟨?_, fun _ => ?_⟩⟩
  · have hlt := of_decide_eq_true hlt
    refine for_up (e := .ret) (xs.findIdx p) (fun i => h_slices_IndexFunc___int64_int64__L0 xs F p i) rfl (fun i hi => step i (by omega) (findIdx_not 0 hi (by omega))) ?_
    refine q_slices_IndexFunc___int64_int64__L0 _ _ _ _ ⟨fun _ => ⟨by omega, fun _ => ⟨hF _, fun _ => ⟨fun _ => rfl, fun h => ?_⟩⟩⟩, fun h => absurd (of_decide_eq_false h) (by omega)⟩
    rw [getD_nat, findIdx_is 0 hlt] at h; cases h
  · have hlt := of_decide_eq_true hlt
    show _ = _
    simp [idxM, hlt]
  · have hge := of_decide_eq_false hge
    have he := findIdx_eq hge
    refine for_up (e := .exit 0) xs.length (fun i => h_slices_IndexFunc___int64_int64__L0 xs F p i) rfl (fun i hi => step i hi (findIdx_not 0 (by omega) hi)) ?_
    exact q_slices_IndexFunc___int64_int64__L0 _ _ _ _ ⟨fun h => absurd h (by simp), fun _ => rfl⟩
  · have hge := of_decide_eq_false hge
    show _ = _
    simp [idxM, hge]
theorem k_slices_ContainsFunc___int64_int64_ {P : Program} {f g : FuncId} (h : Is_slices_ContainsFunc___int64_int64_ P f g) (hg : C_slices_IndexFunc___int64_int64_ P g) : C_slices_ContainsFunc___int64_int64_ P f := by
  intro xs F p hF hx
  refine q_slices_ContainsFunc___int64_int64_ h xs F p ⟨hg xs F p hF hx, fun _ => ?_⟩
  show _ = _
  rw [idx_any]
theorem k_slices_Index___int64_int64_ {P : Program} {f : FuncId} (h : Is_slices_Index___int64_int64_ P f) : C_slices_Index___int64_int64_ P f := by
  intro xs v hx
  have hm := ml64 hx
  have step : ∀ i, i < xs.length → (v == xs.getD i 0) = false → Exec (VCall P) ps_slices_Index___int64_int64_ b_slices_Index___int64_int64__L0 (h_slices_Index___int64_int64__L0 xs v i) .normal (h_slices_Index___int64_int64__L0 xs v (i + 1 : Nat)) := by
    intro i hi hp
    refine q_slices_Index___int64_int64__L0 _ _ _ ⟨fun _ => ⟨by omega, fun _ => ⟨fun h => ?_, fun _ => ?_⟩⟩, fun h => absurd (of_decide_eq_false h) (by omega)⟩
    · rw [getD_nat, hp] at h; cases h
    · show _ = _
      rw [wrap64_id (by omega) (by omega)]; rfl
  refine q_slices_Index___int64_int64_ h xs v ⟨fun hlt => ⟨?_, fun _ => ?_⟩, fun hge => ⟨?_, fun _ => ?_⟩⟩
  · have hlt := of_decide_eq_true hlt
    refine for_up (e := .ret) (xs.findIdx fun x => v == x) (fun i => h_slices_Index___int64_int64__L0 xs v i) rfl (fun i hi => step i (by omega) (findIdx_not (p := fun x => v == x) 0 hi (by omega))) ?_
    refine q_slices_Index___int64_int64__L0 _ _ _ ⟨fun _ => ⟨by omega, fun _ => ⟨fun _ => rfl, fun h => ?_⟩⟩, fun h => absurd (of_decide_eq_false h) (by omega)⟩
    have := findIdx_is 0 hlt
    rw [getD_nat, this] at h; cases h
  · have hlt := of_decide_eq_true hlt
    show _ = _
    simp [idxM, hlt]
  · have hge := of_decide_eq_false hge
    have he := findIdx_eq hge
    refine for_up (e := .exit 0) xs.length (fun i => h_slices_Index___int64_int64__L0 xs v i) rfl (fun i hi => step i hi (findIdx_not (p := fun x => v == x) 0 (by omega) hi)) ?_
    exact q_slices_Index___int64_int64__L0 _ _ _ ⟨fun h => absurd h (by simp), fun _ => rfl⟩
  · have hge := of_decide_eq_false hge
    show _ = _
    simp [idxM, hge]
theorem k_slices_Contains___int64_int64_ {P : Program} {f g : FuncId} (h : Is_slices_Contains___int64_int64_ P f g) (hg : C_slices_Index___int64_int64_ P g) : C_slices_Contains___int64_int64_ P f := by
  intro xs v hx
  refine q_slices_Contains___int64_int64_ h xs v ⟨hg xs v hx, fun _ => ?_⟩
  show _ = _
  rw [idx_any]
theorem k_impl_areFeasts_1 {P : Program} {f g_impl_isDay : FuncId} (h : Is_impl_areFeasts_1 P f g_impl_isDay) (c1 : C_impl_isDay P g_impl_isDay) : C_impl_areFeasts_1 P f := by
  intro n
  refine q_impl_areFeasts_1 h n ?_
  repeat' (first | with_reducible refine T.ok_ob ?_ (fun _ => ?_) | with_reducible refine T.ok_ite (fun _ => ?_) (fun _ => ?_) | with_reducible refine T.ok_leaf ?_)
  all_goals first | with_reducible rfl | with_reducible assumption | with_reducible exact c1 _ | contradiction | exact fconvOk_32_64 _ | assumption | exact rfl | (simp_all []; done) | (simp_all [T.ok]; omega)

theorem any_allNI {p : Int → Bool} (xs : List Int) : xs.any p = !allN xs.length fun i => !p (xs.getD i 0) := by
  rw [Bool.eq_iff_iff]
  cases h : allN xs.length (fun i => !p (xs.getD i 0)) with
  | true =>
    have h := allN_iff.1 h
    simp only [Bool.not_true, List.any_eq_true]
    refine ⟨fun ⟨x, hx, hp⟩ => ?_, fun h' => Bool.noConfusion h'⟩
    obtain ⟨j, hj, rfl⟩ := mem_getD_rng 0 hx
    have := h j hj
    rw [hp] at this; cases this
  | false =>
    obtain ⟨i, hi, h1, _⟩ := allN_not h
    simp only [Bool.not_false, List.any_eq_true, iff_true]
    refine ⟨xs.getD i 0, ?_, by simpa using h1⟩
    simp [List.getD, hi]
theorem all_allNI {p : Int → Bool} (xs : List Int) : xs.all p = allN xs.length fun i => p (xs.getD i 0) := by
  have := any_allNI (p := fun x => !p x) xs
  rw [← List.not_all_eq_any_not] at this
  simpa using this
theorem k_impl_areFeasts {P : Program} {f g F : FuncId} (h : Is_impl_areFeasts P f g F) (c1 : C_slices_ContainsFunc___int64_int64_ P g) (hF : C_impl_areFeasts_1 P F) : C_impl_areFeasts P f := by
  intro xs hx
  refine q_impl_areFeasts h xs ⟨fun h0 => ?_, fun h0 => ⟨c1 xs F _ hF hx, fun _ => ⟨fun h1 => ?_, fun h1 => ?_⟩⟩⟩
  · simp at h0
    have : ¬ (xs.length ≤ 32) := by omega
    simp [T.ok, feastM, this]
  · rw [← List.not_all_eq_any_not] at h1
    simp only [Bool.not_eq_true'] at h1
    simp [T.ok, feastM, h1]
  · rw [← List.not_all_eq_any_not] at h1
    simp only [Bool.not_eq_false'] at h1
    have h2 : xs.length ≤ 32 := by simp at h0; omega
    have go : ∀ i, i < xs.length - 1 → decide (xs.getD i 0 < xs.getD (i + 1) 0) = true → Exec (VCall P) ps_impl_areFeasts (b_impl_areFeasts_L0 g F) (h_impl_areFeasts_L0 xs (1 + i)) .normal (h_impl_areFeasts_L0 xs (1 + (i + 1 : Nat))) := by
      intro i hi hc
      have hc := of_decide_eq_true hc
      refine q_impl_areFeasts_L0 _ _ ?_
      rw [wrap64_id (n := 1 + (i : Int) - 1) (by omega) (by omega), show (1 + (i : Int) - 1) = i by omega, show (1 + (i : Int)) = (i + 1 : Nat) by omega]
      repeat' (first | with_reducible refine T.ok_ob ?_ (fun _ => ?_) | with_reducible refine T.ok_ite (fun _ => ?_) (fun _ => ?_) | with_reducible refine T.ok_leaf ?_)
      all_goals (try simp only [decide_eq_true_eq, decide_eq_false_iff_not, Bool.not_eq_true', Bool.not_eq_false', Bool.not_eq_eq_eq_not, Bool.not_true, Bool.not_false, Int.toNat_natCast, tab_len, List.length_append, List.length_singleton, List.length_cons, List.length_nil, List.length_drop, List.length_take, getD_drop', getD_nat, reduceCtorEq] at *)
      all_goals (try simp (disch := omega) only [wrap64_id] at *)
      all_goals first | omega | (exfalso; omega) | exact True.intro | skip
      rw [show (1 + ((i + 1 : Nat) : Int)) = (i + 1 : Nat) + 1 by omega]
    refine ⟨fun h3 => ⟨?_, fun _ => ?_⟩, fun h3 => ⟨?_, fun _ => ?_⟩⟩
    · refine for_all (e := .exit 0) _ (xs.length - 1) (fun i => h_impl_areFeasts_L0 xs (1 + i)) h3 rfl go ?_
      refine q_impl_areFeasts_L0 _ _ ?_
      repeat' (first | with_reducible refine T.ok_ob ?_ (fun _ => ?_) | with_reducible refine T.ok_ite (fun _ => ?_) (fun _ => ?_) | with_reducible refine T.ok_leaf ?_)
      all_goals (try simp only [decide_eq_true_eq, decide_eq_false_iff_not, Bool.not_eq_true', Bool.not_eq_false', Bool.not_eq_eq_eq_not, Bool.not_true, Bool.not_false, Int.toNat_natCast, tab_len, List.length_append, List.length_singleton, List.length_cons, List.length_nil, List.length_drop, List.length_take, getD_drop', getD_nat, reduceCtorEq] at *)
      all_goals (try simp (disch := omega) only [wrap64_id] at *)
      all_goals first | omega | (exfalso; omega) | exact True.intro | skip
      all_goals rfl
    · simp [T.ok, feastM, h1, h2, h3]
    · refine for_one (e := .ret) _ (xs.length - 1) (fun i => h_impl_areFeasts_L0 xs (1 + i)) h3 rfl go (fun i hi hc => ?_)
      have hc := of_decide_eq_false hc
      refine q_impl_areFeasts_L0 _ _ ?_
      rw [wrap64_id (n := 1 + (i : Int) - 1) (by omega) (by omega), show (1 + (i : Int) - 1) = i by omega, show (1 + (i : Int)) = (i + 1 : Nat) by omega]
      repeat' (first | with_reducible refine T.ok_ob ?_ (fun _ => ?_) | with_reducible refine T.ok_ite (fun _ => ?_) (fun _ => ?_) | with_reducible refine T.ok_leaf ?_)
      all_goals (try simp only [decide_eq_true_eq, decide_eq_false_iff_not, Bool.not_eq_true', Bool.not_eq_false', Bool.not_eq_eq_eq_not, Bool.not_true, Bool.not_false, Int.toNat_natCast, tab_len, List.length_append, List.length_singleton, List.length_cons, List.length_nil, List.length_drop, List.length_take, getD_drop', getD_nat, reduceCtorEq] at *)
      all_goals (try simp (disch := omega) only [wrap64_id] at *)
      all_goals first | omega | (exfalso; omega) | exact True.intro | skip
      all_goals rfl
    · simp [T.ok, feastM, h3]
theorem feast_allN (xs : List Int) : (xs.all isDayM && upM xs) = allN xs.length fun i => isDayM (xs.getD i 0) && (!decide (0 < i) || decide (xs.getD (i - 1) 0 < xs.getD i 0)) := by
  rw [Bool.eq_iff_iff, Bool.and_eq_true, all_allNI, allN_iff, allN_iff]
  unfold upM
  rw [allN_iff]
  constructor
  · intro ⟨h1, h2⟩ i hi
    rw [h1 i hi, Bool.true_and]
    by_cases h0 : 0 < i
    · have := h2 (i - 1) (by omega)
      rw [show i - 1 + 1 = i by omega] at this
      rw [this]; simp
    · simp [h0]
  · intro h
    refine ⟨fun i hi => ?_, fun i hi => ?_⟩
    · have := h i hi
      simp only [Bool.and_eq_true] at this
      exact this.1
    · have := h (i + 1) (by omega)
      simp only [Bool.and_eq_true] at this
      have h2 := this.2
      rw [show i + 1 - 1 = i by omega] at h2
      have h3 : decide (0 < i + 1) = true := by simp
      rw [h3] at h2
      simpa using h2
theorem k_impl_works {P : Program} {f g_impl_dayOfWeek g_slices_Contains___int64_int64_ : FuncId} (h : Is_impl_works P f g_impl_dayOfWeek g_slices_Contains___int64_int64_) (c1 : C_impl_dayOfWeek P g_impl_dayOfWeek) (c2 : C_slices_Contains___int64_int64_ P g_slices_Contains___int64_int64_) : C_impl_works P f := by
  intro n xs hn hx
  refine q_impl_works h n xs ?_
  repeat' (first | with_reducible refine T.ok_ob ?_ (fun _ => ?_) | with_reducible refine T.ok_ite (fun _ => ?_) (fun _ => ?_) | with_reducible refine T.ok_leaf ?_)
  all_goals first | with_reducible rfl | with_reducible assumption | ((with_reducible refine c1 _ ?_) <;> (first | assumption | omega | with_reducible rfl | (simp [maxLen_eq]; done) | (simp [maxLen_eq]; omega))) | ((with_reducible refine c2 _ _ ?_) <;> (first | assumption | omega | with_reducible rfl | (simp [maxLen_eq]; done) | (simp [maxLen_eq]; omega))) | contradiction | exact fconvOk_32_64 _ | assumption | exact rfl | (simp_all [workM]; done) | (simp_all [T.ok, workM]; omega)

theorem week_five (d : Int) : (sumN 7 fun k => one (decide (weekM (d + k) < 5))) = 5 := by
  obtain ⟨r, hr, hr2⟩ : ∃ r : Nat, (d + 5) % 7 = r ∧ r < 7 := ⟨((d + 5) % 7).toNat, by omega, by omega⟩
  have e : (sumN 7 fun k => one (decide (weekM (d + k) < 5))) = sumN 7 fun k => if (r + k) % 7 < 5 then 1 else 0 := sumN_congr 7 fun k hk => by
    rw [week_eq]; unfold one
    have e2 : (d + (k : Int) + 5) % 7 = ((r + k) % 7 : Nat) := by omega
    rw [e2]
    by_cases h : (r + k) % 7 < 5
    · have : (((r + k) % 7 : Nat) : Int) < 5 := by omega
      simp only [this, h, decide_true, if_true]
    · have : ¬ (((r + k) % 7 : Nat) : Int) < 5 := by omega
      simp only [this, h, decide_false, if_false, Bool.false_eq_true]
  rw [e]
  have all : ∀ r : Fin 7, (sumN 7 fun k => if (r.val + k) % 7 < 5 then (1 : Int) else 0) = 5 := by decide
  exact all ⟨r, hr2⟩
theorem sumN_append (f : Nat → Int) (m : Nat) : ∀ n, sumN (m + n) f = sumN m f + sumN n fun i => f (m + i)
  | 0 => by simp [sumN]
  | n + 1 => by
    show sumN (m + n) f + f (m + n) = _
    rw [sumN_append f m n]; simp only [sumN]; omega
theorem weeks_sum (a : Int) : ∀ w : Nat, (sumN (7 * w) fun i => one (decide (weekM (a + i) < 5))) = 5 * w
  | 0 => rfl
  | w + 1 => by
    rw [show 7 * (w + 1) = 7 * w + 7 by omega, sumN_append, weeks_sum a w]
    have : (sumN 7 fun i => one (decide (weekM (a + (7 * w + i : Nat)) < 5))) = sumN 7 fun i => one (decide (weekM ((a + 7 * w) + i) < 5)) := sumN_congr 7 fun i _ => by
      rw [show a + ((7 * w + i : Nat) : Int) = (a + 7 * w) + i by omega]
    rw [this, week_five]; omega
theorem sumN_swap (t : Nat → Nat → Int) (m : Nat) : ∀ n, (sumN n fun i => sumN m fun j => t i j) = sumN m fun j => sumN n fun i => t i j
  | 0 => by
    have : ∀ m, (sumN m fun _ => (0 : Int)) = 0 := fun m => by induction m with | zero => rfl | succ m ih => simp only [sumN, ih]; rfl
    exact (this m).symm
  | n + 1 => by
    have e : (sumN m fun j => sumN (n + 1) fun i => t i j) = sumN m fun j => (sumN n fun i => t i j) + t n j := rfl
    rw [e, sumN_add, ← sumN_swap t m n]; rfl
theorem sumN_sub (f g : Nat → Int) (n : Nat) : (sumN n fun i => f i - g i) = sumN n f - sumN n g := by
  induction n with
  | zero => rfl
  | succ n ih => simp only [sumN, ih]; omega
theorem sum_hit (p : Int → Bool) (a x : Int) : ∀ n : Nat, (sumN n fun i => one (p (a + i) && (a + i == x))) = one (p x && (decide (a ≤ x) && decide (x < a + n)))
  | 0 => by
    have : ¬ (a ≤ x ∧ x < a + (0 : Nat)) := by omega
    by_cases h : a ≤ x
    · have h2 : ¬ (x < a + (0 : Nat)) := by omega
      simp only [sumN, h2, decide_false, Bool.and_false]; rfl
    · simp only [sumN, h, decide_false, Bool.false_and, Bool.and_false]; rfl
  | n + 1 => by
    show (sumN n fun i => one (p (a + i) && (a + i == x))) + one (p (a + n) && (a + n == x)) = _
    rw [sum_hit p a x n]
    by_cases h : a + (n : Int) = x
    · subst h
      have h1 : ¬ (a + (n : Int) < a + n) := by omega
      have h2 : a ≤ a + (n : Int) := by omega
      have h3 : a + (n : Int) < a + (n + 1 : Nat) := by omega
      simp only [h1, h2, h3, decide_false, decide_true, Bool.and_false, Bool.and_true, beq_self_eq_true]
      simp [one]
    · have h1 : (a + (n : Int) == x) = false := by simpa using h
      rw [h1, Bool.and_false]
      have h2 : decide (x < a + (n : Int)) = decide (x < a + (n + 1 : Nat)) := by
        rw [Bool.eq_iff_iff, decide_eq_true_eq, decide_eq_true_eq]; omega
      rw [h2]; simp [one]
theorem up_lt {xs : List Int} (h : upM xs = true) : ∀ {i j : Nat}, i < j → j < xs.length → xs.getD i 0 < xs.getD j 0 := by
  intro i j hij
  induction j with
  | zero => omega
  | succ j ih =>
    intro hj
    unfold upM at h
    have h1 := of_decide_eq_true (allN_iff.1 h j (by omega))
    rcases Nat.lt_or_eq_of_le (Nat.le_of_lt_succ hij) with h2 | rfl
    · have := ih h2 (by omega); omega
    · exact h1
theorem any_sum {xs : List Int} (h : upM xs = true) (d : Int) : one (xs.any fun x => d == x) = sumN xs.length fun j => one (d == xs.getD j 0) := by
  rw [any_allNI]
  have gen : ∀ m, m ≤ xs.length → (sumN m fun j => one (d == xs.getD j 0)) = one (!allN m fun i => !(d == xs.getD i 0)) := by
    intro m
    induction m with
    | zero => intro _; rfl
    | succ m ih =>
      intro hm
      show (sumN m fun j => one (d == xs.getD j 0)) + one (d == xs.getD m 0) = _
      rw [ih (by omega)]
      show _ = one (!(allN m (fun i => !(d == xs.getD i 0)) && !(d == xs.getD m 0)))
      cases hd : (d == xs.getD m 0) with
      | false => simp [one]
      | true =>
        have hd : d = xs.getD m 0 := by simpa using hd
        have : allN m (fun i => !(d == xs.getD i 0)) = true := allN_iff.2 fun i hi => by
          have := up_lt h hi (by omega)
          simp only [Bool.not_eq_true', beq_eq_false_iff_ne]; omega
        rw [this]; simp [one]
  exact (gen _ (Nat.le_refl _)).symm
/-- the work days are the weekdays less the feasts on weekdays -/
theorem wd_split {xs : List Int} (h : upM xs = true) (a : Int) (n : Nat) : wdM xs a n = (sumN n fun i => one (decide (weekM (a + i) < 5))) - sumN xs.length fun j => one (decide (weekM (xs.getD j 0) < 5) && (decide (a ≤ xs.getD j 0) && decide (xs.getD j 0 < a + n))) := by
  have e1 : wdM xs a n = sumN n fun i => one (decide (weekM (a + i) < 5)) - sumN xs.length fun j => one (decide (weekM (a + i) < 5) && (a + i == xs.getD j 0)) := by
    unfold wdM
    refine sumN_congr n fun i _ => ?_
    unfold workM
    cases hw : decide (weekM (a + i) < 5) with
    | false =>
      have : (sumN xs.length fun j => one (false && (a + (i : Int) == xs.getD j 0))) = 0 := by
        simp only [Bool.false_and]
        induction xs.length with | zero => rfl | succ m ih => simp only [sumN, ih]; rfl
      rw [this]; rfl
    | true =>
      simp only [Bool.true_and]
      rw [← any_sum h]
      cases xs.any fun x => a + (i : Int) == x <;> rfl
  rw [e1, sumN_sub, sumN_swap]
  congr 1
  exact sumN_congr _ fun j _ => sum_hit (fun d => decide (weekM d < 5)) a (xs.getD j 0) n
theorem one_bound (b : Bool) : 0 ≤ one b ∧ one b ≤ 1 := by cases b <;> simp [one]
theorem ones_bound (f : Nat → Bool) : ∀ n : Nat, 0 ≤ (sumN n fun i => one (f i)) ∧ (sumN n fun i => one (f i)) ≤ n
  | 0 => by simp [sumN]
  | n + 1 => by
    have := ones_bound f n
    have := one_bound (f n)
    show 0 ≤ (sumN n fun i => one (f i)) + one (f n) ∧ (sumN n fun i => one (f i)) + one (f n) ≤ (n + 1 : Nat)
    omega
theorem weeks_eq {a b : Int} (h : a ≤ b) : wdWeeks a b = (b - a) / 7 := by
  unfold wdWeeks; rw [Int.tdiv_eq_ediv_of_nonneg (by omega)]
theorem wd_total {xs : List Int} {a b : Int} (h : upM xs = true) (hab : a ≤ b) : wdM xs a (wdLen a b) = 5 * wdWeeks a b + wdTail a b - wdFeast xs a b xs.length := by
  have hw := weeks_eq hab
  obtain ⟨w, hw2⟩ : ∃ w : Nat, wdWeeks a b = w := ⟨(wdWeeks a b).toNat, by omega⟩
  rw [wd_split h]
  congr 1
  · unfold wdTail
    rw [hw2]
    have : wdLen a b = 7 * w + (b + 1 - (a + 7 * (w : Int))).toNat := by unfold wdLen; omega
    rw [this, sumN_append, weeks_sum]
    congr 1
    exact sumN_congr _ fun i _ => by rw [show a + ((7 * w + i : Nat) : Int) = a + 7 * (w : Int) + i by omega]
  · unfold wdFeast
    refine sumN_congr _ fun j _ => ?_
    rw [Bool.and_comm]
    congr 2
    have : (wdLen a b : Int) = b - a + 1 := by unfold wdLen; omega
    rw [this]
    unfold inM
    congr 1
    rw [Bool.eq_iff_iff, decide_eq_true_eq, decide_eq_true_eq]; omega
theorem feast_up {xs : List Int} (h : feastM xs = true) : upM xs = true ∧ xs.length ≤ 32 ∧ ∀ i, i < xs.length → isDayM (xs.getD i 0) = true := by
  unfold feastM at h
  simp only [Bool.and_eq_true, decide_eq_true_eq] at h
  rw [all_allNI] at h
  exact ⟨h.2.2, h.1, allN_iff.1 h.2.1⟩
theorem day_bound {n : Int} (h : isDayM n = true) : -36524 ≤ n ∧ n ≤ 73048 := by simpa [isDayM, inM] using h
theorem k_impl_WorkDays {P : Program} {f g1 g2 g3 : FuncId} (h : Is_impl_WorkDays P f g1 g2 g3) (c1 : C_impl_isDay P g1) (c2 : C_impl_areFeasts P g2) (c3 : C_impl_works P g3) : C_impl_WorkDays P f := by
  intro a b xs hx
  refine q_impl_WorkDays h a b xs ⟨c1 _, fun _ => ⟨fun h0 => ?_, fun h0 => ⟨c1 _, fun _ => ⟨fun h1 => ?_, fun h1 => ⟨fun h2 => ?_, fun h2 => ⟨c2 _ hx, fun _ => ⟨fun h3 => ?_, fun h3 => ⟨?_, fun _ => ?_⟩⟩⟩⟩⟩⟩⟩⟩
  · simp at h0; simp [T.ok, wdOk, h0]
  · simp at h1; simp [T.ok, wdOk, h1]
  · have h2 := of_decide_eq_true h2
    have : ¬ (a ≤ b) := by omega
    simp [T.ok, wdOk, this]
  · simp at h3; simp [T.ok, wdOk, h3]
  · simp only [Bool.not_eq_false'] at h0 h1
    have h2 := of_decide_eq_false h2
    have ha := day_bound h0
    have hb := day_bound h1
    have hl : (wdLen a b : Int) = b - a + 1 := by unfold wdLen; omega
    refine for_up (e := .exit 0) (wdLen a b) (fun i => h_impl_WorkDays_L0 a b xs (wdM xs a i) (a + i)) (by simp [wdM, sumN]) (fun i hi => ?_) ?_
    · refine q_impl_WorkDays_L0 _ _ _ _ _ ?_
      have e : wdM xs a (i + 1) = wdM xs a i + one (workM xs (a + i)) := rfl
      have := ones_bound (fun i => workM xs (a + i)) i
      have this : 0 ≤ wdM xs a i ∧ wdM xs a i ≤ i := this
      rw [e]
      generalize wdM xs a i = W at *
      have a3 := c3 (a + i) xs (by omega) hx
      cases hw : workM xs (a + (i : Int)) <;> rw [hw] at a3 <;> simp only [one, Bool.false_eq_true, if_false, if_true, Int.add_zero]
      repeat' (first | with_reducible refine T.ok_ob ?_ (fun _ => ?_) | with_reducible refine T.ok_ite (fun _ => ?_) (fun _ => ?_) | with_reducible refine T.ok_leaf ?_)
      all_goals (try simp only [decide_eq_true_eq, decide_eq_false_iff_not, Bool.not_eq_true', Bool.not_eq_false', Bool.not_eq_eq_eq_not, Bool.not_true, Bool.not_false, Int.toNat_natCast, tab_len, List.length_append, List.length_singleton, List.length_cons, List.length_nil, List.length_drop, List.length_take, getD_drop', getD_nat, reduceCtorEq] at *)
      all_goals (try simp (disch := omega) only [wrap64_id] at *)
      all_goals first | omega | (exfalso; omega) | exact True.intro | skip
      all_goals first | exact a3 | (rw [show a + (i : Int) + 1 = a + (i + 1 : Nat) by omega])
    · refine q_impl_WorkDays_L0 _ _ _ _ _ ?_
      rw [hl, show a + (b - a + 1) = b + 1 by omega]
      repeat' (first | with_reducible refine T.ok_ob ?_ (fun _ => ?_) | with_reducible refine T.ok_ite (fun _ => ?_) (fun _ => ?_) | with_reducible refine T.ok_leaf ?_)
      all_goals (try simp only [decide_eq_true_eq, decide_eq_false_iff_not, Bool.not_eq_true', Bool.not_eq_false', Bool.not_eq_eq_eq_not, Bool.not_true, Bool.not_false, Int.toNat_natCast, tab_len, List.length_append, List.length_singleton, List.length_cons, List.length_nil, List.length_drop, List.length_take, getD_drop', getD_nat, reduceCtorEq] at *)
      all_goals (try simp (disch := omega) only [wrap64_id] at *)
      all_goals first | omega | (exfalso; omega) | exact True.intro | skip
      all_goals rfl
  · simp only [Bool.not_eq_false'] at h0 h1 h3
    have h2 := of_decide_eq_false h2
    have h2 : a ≤ b := by omega
    have e : wdOk xs a b = true := by simp [wdOk, h0, h1, h2, h3]
    simp only [T.ok, e, if_true]
theorem wd_next (xs : List Int) (a : Int) (j : Nat) : wdM xs a (j + 1) = wdM xs a j + one (workM xs (a + j)) := rfl
theorem range_getD (n i : Nat) (h : i < n) : (List.range n).getD i 0 = i := by simp [List.getD, h]
theorem wb_spec {xs : List Int} {n c : Int} (h : upM xs = true) (hl : xs.length ≤ 32) (hc : 1 ≤ c ∧ c ≤ 1000) : wbJ xs n c ≤ 2100 ∧ wdM xs (n + 1) (wbJ xs n c) = c ∧ ∀ j, j < wbJ xs n c → wdM xs (n + 1) j < c := by
  have big : c ≤ wdM xs (n + 1) 2100 := by
    rw [wd_split h, show 2100 = 7 * 300 by rfl, weeks_sum]
    have := ones_bound (fun j => decide (weekM (xs.getD j 0) < 5) && (decide (n + 1 ≤ xs.getD j 0) && decide (xs.getD j 0 < n + 1 + (7 * 300 : Nat)))) xs.length
    omega
  have hlt : wbJ xs n c < 2101 := by
    have : (List.range 2101).findIdx (fun j => decide (c ≤ wdM xs (n + 1) j)) < (List.range 2101).length := List.findIdx_lt_length.2 ⟨2100, by simp, by simpa using big⟩
    simpa [wbJ] using this
  have hj : ∀ j, j < wbJ xs n c → wdM xs (n + 1) j < c := by
    intro j hj
    have := findIdx_not (p := fun j => decide (c ≤ wdM xs (n + 1) j)) (xs := List.range 2101) 0 hj (by simp; omega)
    rw [range_getD _ _ (by omega)] at this
    have := of_decide_eq_false this
    omega
  have hJ : c ≤ wdM xs (n + 1) (wbJ xs n c) := by
    have this : decide (c ≤ wdM xs (n + 1) ((List.range 2101).getD (wbJ xs n c) 0)) = true := findIdx_is (p := fun j => decide (c ≤ wdM xs (n + 1) j)) (xs := List.range 2101) 0 (by simpa [wbJ] using hlt)
    rw [range_getD _ _ (show wbJ xs n c < 2101 from hlt)] at this
    exact of_decide_eq_true this
  refine ⟨by omega, ?_, hj⟩
  have : wbJ xs n c ≠ 0 := by
    intro e
    rw [e] at hJ
    have : wdM xs (n + 1) 0 = 0 := rfl
    omega
  have h1 := hj (wbJ xs n c - 1) (by omega)
  have h2 := wd_next xs (n + 1) (wbJ xs n c - 1)
  rw [show wbJ xs n c - 1 + 1 = wbJ xs n c by omega] at h2
  have := one_bound (workM xs (n + 1 + (wbJ xs n c - 1 : Nat)))
  omega
theorem k_impl_WorkDayBehind {P : Program} {f g1 g2 g3 g4 : FuncId} (h : Is_impl_WorkDayBehind P f g1 g2 g3 g4) (c1 : C_impl_isDay P g1) (c2 : C_impl_within P g2) (c3 : C_impl_areFeasts P g3) (c4 : C_impl_works P g4) : C_impl_WorkDayBehind P f := by
  intro n c xs hx
  refine q_impl_WorkDayBehind h n c xs ⟨c1 _, fun _ => ⟨fun h0 => ?_, fun h0 => ⟨c2 _ _ _, fun _ => ⟨fun h1 => ?_, fun h1 => ⟨c3 _ hx, fun _ => ⟨fun h2 => ?_, fun h2 => ?_⟩⟩⟩⟩⟩⟩
  · simp at h0; simp [T.ok, wbOk, h0]
  · simp at h1; simp [T.ok, wbOk, h1]
  · simp at h2; simp [T.ok, wbOk, h2]
  · simp only [Bool.not_eq_false'] at h0 h1 h2
    have hn := day_bound h0
    have hc : 1 ≤ c ∧ c ≤ 1000 := by simpa [inM] using h1
    have hf := feast_up h2
    obtain ⟨w1, w2, w3⟩ := wb_spec (n := n) hf.1 hf.2.1 hc
    have go : ∀ j : Nat, j < wbJ xs n c → isDayM (n + (j + 1 : Nat)) = true → Exec (VCall P) ps_impl_WorkDayBehind (b_impl_WorkDayBehind_L0 g1 g2 g3 g4) (h_impl_WorkDayBehind_L0 n c xs (n + j) (c - wdM xs (n + 1) j)) .normal (h_impl_WorkDayBehind_L0 n c xs (n + (j + 1 : Nat)) (c - wdM xs (n + 1) (j + 1))) := by
      intro j hj hd
      refine q_impl_WorkDayBehind_L0 _ _ _ _ _ ?_
      have hw := w3 j hj
      have hb := ones_bound (fun i => workM xs (n + 1 + i)) j
      have hb : 0 ≤ wdM xs (n + 1) j ∧ wdM xs (n + 1) j ≤ j := hb
      rw [wd_next, wrap64_id (n := n + (j : Int) + 1) (by omega) (by omega), show n + (j : Int) + 1 = n + (j + 1 : Nat) by omega, show n + 1 + (j : Int) = n + (j + 1 : Nat) by omega]
      have a1 := c1 (n + (j + 1 : Nat))
      have a4 := c4 (n + (j + 1 : Nat)) xs (by omega) hx
      rw [hd] at a1 ⊢
      generalize wdM xs (n + 1) j = W at *
      cases hk : workM xs (n + (j + 1 : Nat)) <;> rw [hk] at a4 <;> simp only [one, Bool.false_eq_true, if_false, if_true, Int.add_zero]
      repeat' (first | with_reducible refine T.ok_ob ?_ (fun _ => ?_) | with_reducible refine T.ok_ite (fun _ => ?_) (fun _ => ?_) | with_reducible refine T.ok_leaf ?_)
      all_goals (try simp only [decide_eq_true_eq, decide_eq_false_iff_not, Bool.not_eq_true', Bool.not_eq_false', Bool.not_eq_eq_eq_not, Bool.not_true, Bool.not_false, Int.toNat_natCast, tab_len, List.length_append, List.length_singleton, List.length_cons, List.length_nil, List.length_drop, List.length_take, getD_drop', getD_nat, reduceCtorEq] at *)
      all_goals (try simp (disch := omega) only [wrap64_id] at *)
      all_goals first | omega | (exfalso; omega) | exact True.intro | skip
      all_goals first | exact a1 | exact a4 | rfl | (rw [show c - W - 1 = c - (W + 1) by omega])
    refine ⟨fun h3 => ⟨?_, fun _ => ?_⟩, fun h3 => ⟨?_, fun _ => ?_⟩⟩
    · have hJ := day_bound h3
      refine for_up (e := .exit 0) (wbJ xs n c) (fun j => h_impl_WorkDayBehind_L0 n c xs (n + j) (c - wdM xs (n + 1) j)) (by simp [wdM, sumN]) (fun j hj => go j hj ?_) ?_
      · simp [isDayM, inM]; omega
      · refine q_impl_WorkDayBehind_L0 _ _ _ _ _ ?_
        rw [w2, Int.sub_self]
        repeat' (first | with_reducible refine T.ok_ob ?_ (fun _ => ?_) | with_reducible refine T.ok_ite (fun _ => ?_) (fun _ => ?_) | with_reducible refine T.ok_leaf ?_)
        all_goals (try simp only [decide_eq_true_eq, decide_eq_false_iff_not, Bool.not_eq_true', Bool.not_eq_false', Bool.not_eq_eq_eq_not, Bool.not_true, Bool.not_false, Int.toNat_natCast, tab_len, List.length_append, List.length_singleton, List.length_cons, List.length_nil, List.length_drop, List.length_take, getD_drop', getD_nat, reduceCtorEq] at *)
        all_goals (try simp (disch := omega) only [wrap64_id] at *)
        all_goals first | omega | (exfalso; omega) | exact True.intro | skip
        all_goals rfl
    · have e : wbOk xs n c = true := by simp [wbOk, h0, h1, h2, h3]
      simp only [T.ok, e, if_true]
    · have hJ : 73048 < n + (wbJ xs n c : Int) := by
        have : ¬ (-36524 ≤ n + (wbJ xs n c : Int) ∧ n + (wbJ xs n c : Int) ≤ 73048) := by
          intro hh
          have : isDayM (n + (wbJ xs n c : Int)) = true := by simp [isDayM, inM]; omega
          rw [this] at h3; cases h3
        omega
      refine for_up (e := .ret) (73048 - n).toNat (fun j => h_impl_WorkDayBehind_L0 n c xs (n + j) (c - wdM xs (n + 1) j)) (by simp [wdM, sumN]) (fun j hj => go j (by omega) ?_) ?_
      · simp [isDayM, inM]; omega
      · refine q_impl_WorkDayBehind_L0 _ _ _ _ _ ?_
        have hw := w3 (73048 - n).toNat (by omega)
        generalize wdM xs (n + 1) (73048 - n).toNat = W at *
        rw [show n + ((73048 - n).toNat : Int) = 73048 by omega, wrap64_id (n := 73048 + 1) (by omega) (by omega)]
        have hd : isDayM (73048 + 1) = false := by decide
        have a1 := c1 (73048 + 1)
        rw [hd] at a1 ⊢
        repeat' (first | with_reducible refine T.ok_ob ?_ (fun _ => ?_) | with_reducible refine T.ok_ite (fun _ => ?_) (fun _ => ?_) | with_reducible refine T.ok_leaf ?_)
        all_goals (try simp only [decide_eq_true_eq, decide_eq_false_iff_not, Bool.not_eq_true', Bool.not_eq_false', Bool.not_eq_eq_eq_not, Bool.not_true, Bool.not_false, Int.toNat_natCast, tab_len, List.length_append, List.length_singleton, List.length_cons, List.length_nil, List.length_drop, List.length_take, getD_drop', getD_nat, reduceCtorEq] at *)
        all_goals (try simp (disch := omega) only [wrap64_id] at *)
        all_goals first | omega | (exfalso; omega) | exact True.intro | skip
        all_goals first | exact a1 | rfl
    · have e : wbOk xs n c = false := by simp [wbOk, h3]
      simp only [T.ok, e]; rfl
end Go.Proofs.LV
