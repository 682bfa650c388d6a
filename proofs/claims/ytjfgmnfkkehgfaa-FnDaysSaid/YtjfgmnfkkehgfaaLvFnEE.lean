/- Dates, weeks, Easter. -/
import Derived.Test.YtjfgmnfkkehgfaaLvFnH
namespace Go.Proofs.LV
open Go
set_option linter.unusedVariables false
set_option linter.unusedSimpArgs false

abbrev PU (p : List Nat) (xs : List Int) : AV := .sl (.par p) 0 (.i .u8 xs)
/-- bytes -/
def Byt (xs : List Int) : Prop := ∀ i, 0 ≤ xs.getD i 0 ∧ xs.getD i 0 ≤ 255

-- FN laws_r8Long
/-- laws.r8Long: slots 13, results [.t 4]; calls []; names [(code, 0), (more, 1), (code, 2), (more, 3)] -/
def ps_laws_r8Long : List Nat := [0, 1, 4]
def b_laws_r8Long : VCode :=
  (.seq
   (.region false [
    ⟨some 4, .mv, [.k (.b false)], none⟩])
   (.seq
    (.region false [
     ⟨some 5, .mv, [.t 0], none⟩,
     ⟨some 6, .len, [.t 5], none⟩,
     ⟨some 7, (.bin .gtr), [.t 6, .k (.i .i64 48)], none⟩,
     ⟨some 8, .mv, [.t 7], none⟩,
     ⟨some 9, .mv, [.t 1], some (8, false)⟩,
     ⟨some 10, .len, [.t 9], some (8, false)⟩,
     ⟨some 11, (.bin .gtr), [.t 10, .k (.i .i64 48)], some (8, false)⟩,
     ⟨some 12, .pick, [.t 8, .k (.b true), .t 11], none⟩,
     ⟨some 4, .mv, [.t 12], none⟩])
    .ret))

abbrev Is_laws_r8Long (P : Program) (g_f : FuncId) : Prop := FnIs P g_f 13 [.t 4] (b_laws_r8Long)

abbrev C_laws_r8Long (P : Program) (g_f : FuncId) : Prop := ∀ (cs : List Int) (ms : List Int), VCall P g_f [PU [0] cs, PU [1] ms] (.b (decide ((cs.length : Int) > 48) || decide ((ms.length : Int) > 48)))
def oc1_laws_r8Long (as : List AV) : T AV := match as with | [.sl _ _ (.i _ cs), .sl _ _ (.i _ ms)] => .leaf (.b (decide ((cs.length : Int) > 48) || decide ((ms.length : Int) > 48))) | _ => .fail



theorem q_laws_r8Long {P : Program} {g_f : FuncId} (h_ : Is_laws_r8Long P g_f) (cs : List Int) (ms : List Int) (ht : T.ok (fun x_ => x_ = .b (decide ((cs.length : Int) > 48) || decide ((ms.length : Int) > 48))) (
      T.ite (decide ((↑(List.length cs) : Int) > 48)) (T.leaf (AV.b true)) (T.leaf (AV.b (decide ((↑(List.length ms) : Int) > 48)))))) :
    VCall P g_f [PU [0] cs, PU [1] ms] (.b (decide ((cs.length : Int) > 48) || decide ((ms.length : Int) > 48))) := h_.call_of ps_laws_r8Long ⟨fun _ _ => .fail, fun _ _ => none⟩ (by kernel_rfl) ht

-- END laws_r8Long

def atM (cs : List Int) (k n : Int) : Int := if n ≤ 1 ∨ (cs.length : Int) ≤ k then 0 else (cs.getD k.toNat 0).tmod n
-- FN laws_r8At
/-- laws.r8At: slots 22, results [.t 6]; calls []; names [(code, 0), (k, 1), (n, 2), (code, 3), (k, 4), (n, 5)] -/
def ps_laws_r8At : List Nat := [0, 1, 2, 6, 14]
def b_laws_r8At : VCode :=
  (.seq
   (.region false [
    ⟨some 6, .mv, [.k (.i .i64 0)], none⟩])
   (.seq
    (.seq
     (.region false [
      ⟨some 7, .mv, [.t 2], none⟩,
      ⟨some 8, (.bin .leq), [.t 7, .k (.i .i64 1)], none⟩,
      ⟨some 9, .mv, [.t 8], none⟩,
      ⟨some 10, .mv, [.t 1], some (9, false)⟩,
      ⟨some 11, .mv, [.t 0], some (9, false)⟩,
      ⟨some 12, .len, [.t 11], some (9, false)⟩,
      ⟨some 13, (.bin .geq), [.t 10, .t 12], some (9, false)⟩,
      ⟨some 14, .pick, [.t 9, .k (.b true), .t 13], none⟩])
     (.cond (.t 14)
      (.seq
       (.region false [
        ⟨some 6, .mv, [.k (.i .i64 0)], none⟩])
       .ret)
      .skip))
    (.seq
     (.region false [
      ⟨some 15, .mv, [.t 0], none⟩,
      ⟨some 16, .mv, [.t 1], none⟩,
      ⟨some 17, .iaddr, [.t 15, .t 16], none⟩,
      ⟨some 18, .load, [.t 17], none⟩,
      ⟨some 19, (.convI .i64), [.t 18], none⟩,
      ⟨some 20, .mv, [.t 2], none⟩,
      ⟨some 21, (.bin .rem), [.t 19, .t 20], none⟩,
      ⟨some 6, .mv, [.t 21], none⟩])
     .ret)))

abbrev Is_laws_r8At (P : Program) (g_f : FuncId) : Prop := FnIs P g_f 22 [.t 6] (b_laws_r8At)

abbrev C_laws_r8At (P : Program) (g_f : FuncId) : Prop := ∀ (cs : List Int) (k : Int) (n : Int) (hk : 0 ≤ k) (hc : Byt cs), VCall P g_f [PU [0] cs, .i .i64 k, .i .i64 n] (.i .i64 (atM cs k n))
def oc1_laws_r8At (as : List AV) : T AV := match as with | [.sl _ _ (.i _ cs), .i .i64 k, .i .i64 n] => .leaf (.i .i64 (atM cs k n)) | _ => .fail



theorem q_laws_r8At {P : Program} {g_f : FuncId} (h_ : Is_laws_r8At P g_f) (cs : List Int) (k : Int) (n : Int) (ht : T.ok (fun x_ => x_ = .i .i64 (atM cs k n)) (
      T.ite (decide (n ≤ 1)) (T.leaf (AV.i IntKind.i64 0))
        (T.ite (decide (k ≥ (↑(List.length cs) : Int))) (T.leaf (AV.i IntKind.i64 0))
          (T.ob (0 ≤ k ∧ k < (↑(List.length cs) : Int)) (T.ob True (T.ob (n ≠ 0) (T.leaf (AV.i IntKind.i64 (Int.tmod (IntKind.wrap IntKind.i64 (List.getD cs (Int.toNat k) 0)) n))))))))) :
    VCall P g_f [PU [0] cs, .i .i64 k, .i .i64 n] (.i .i64 (atM cs k n)) := h_.call_of ps_laws_r8At ⟨fun _ _ => .fail, fun _ _ => none⟩ (by kernel_rfl) ht

-- END laws_r8At

-- FN impl_isYear
/-- impl.isYear: slots 5, results [.t 2]; calls [4:g_impl_within]; names [(n, 0), (n, 1)] -/
def ps_impl_isYear : List Nat := [0, 2]
def b_impl_isYear (g_impl_within : FuncId) : VCode :=
  (.seq
   (.region false [
    ⟨some 2, .mv, [.k (.b false)], none⟩])
   (.seq
    (.region false [
     ⟨some 3, .mv, [.t 0], none⟩,
     ⟨some 4, (.call g_impl_within), [.t 3, .k (.i .i64 1900), .k (.i .i64 2199)], none⟩,
     ⟨some 2, .mv, [.t 4], none⟩])
    .ret))

abbrev Is_impl_isYear (P : Program) (g_f : FuncId) (g_impl_within : FuncId) : Prop := FnIs P g_f 5 [.t 2] (b_impl_isYear g_impl_within)

abbrev C_impl_isYear (P : Program) (g_f : FuncId) : Prop := ∀ (n : Int), VCall P g_f [.i .i64 n] (.b (inM n 1900 2199))
def oc1_impl_isYear (as : List AV) : T AV := match as with | [.i .i64 n] => .leaf (.b (inM n 1900 2199)) | _ => .fail
def oc_impl_isYear (n : Int) (d : Nat) (as : List AV) : T AV := match d with | 4 => oc1_impl_within as | _ => .fail



theorem q_impl_isYear {P : Program} {g_f : FuncId} {g_impl_within : FuncId} (h_ : Is_impl_isYear P g_f g_impl_within) (n : Int) (ht : T.ok (fun x_ => x_ = .b (inM n 1900 2199)) (
      T.ob ((VCall P) g_impl_within [AV.i IntKind.i64 n, AV.i IntKind.i64 1900, AV.i IntKind.i64 2199] (AV.b (inM n 1900 2199))) (T.leaf (AV.b (inM n 1900 2199))))) :
    VCall P g_f [.i .i64 n] (.b (inM n 1900 2199)) := h_.call_of ps_impl_isYear ⟨oc_impl_isYear n, fun _ _ => none⟩ (by kernel_rfl) ht

-- END impl_isYear

-- FN impl_isMonth
/-- impl.isMonth: slots 5, results [.t 2]; calls [4:g_impl_within]; names [(n, 0), (n, 1)] -/
def ps_impl_isMonth : List Nat := [0, 2]
def b_impl_isMonth (g_impl_within : FuncId) : VCode :=
  (.seq
   (.region false [
    ⟨some 2, .mv, [.k (.b false)], none⟩])
   (.seq
    (.region false [
     ⟨some 3, .mv, [.t 0], none⟩,
     ⟨some 4, (.call g_impl_within), [.t 3, .k (.i .i64 1), .k (.i .i64 12)], none⟩,
     ⟨some 2, .mv, [.t 4], none⟩])
    .ret))

abbrev Is_impl_isMonth (P : Program) (g_f : FuncId) (g_impl_within : FuncId) : Prop := FnIs P g_f 5 [.t 2] (b_impl_isMonth g_impl_within)

abbrev C_impl_isMonth (P : Program) (g_f : FuncId) : Prop := ∀ (n : Int), VCall P g_f [.i .i64 n] (.b (inM n 1 12))
def oc1_impl_isMonth (as : List AV) : T AV := match as with | [.i .i64 n] => .leaf (.b (inM n 1 12)) | _ => .fail
def oc_impl_isMonth (n : Int) (d : Nat) (as : List AV) : T AV := match d with | 4 => oc1_impl_within as | _ => .fail



theorem q_impl_isMonth {P : Program} {g_f : FuncId} {g_impl_within : FuncId} (h_ : Is_impl_isMonth P g_f g_impl_within) (n : Int) (ht : T.ok (fun x_ => x_ = .b (inM n 1 12)) (
      T.ob ((VCall P) g_impl_within [AV.i IntKind.i64 n, AV.i IntKind.i64 1, AV.i IntKind.i64 12] (AV.b (inM n 1 12))) (T.leaf (AV.b (inM n 1 12))))) :
    VCall P g_f [.i .i64 n] (.b (inM n 1 12)) := h_.call_of ps_impl_isMonth ⟨oc_impl_isMonth n, fun _ _ => none⟩ (by kernel_rfl) ht

-- END impl_isMonth

-- FN impl_IsLeap
/-- impl.IsLeap: slots 9, results [.t 2]; calls [4:g_impl_isYear, 7:g_impl_leaps]; names [(year, 0), (year, 1)] -/
def ps_impl_IsLeap : List Nat := [0, 2]
def b_impl_IsLeap (g_impl_isYear g_impl_leaps : FuncId) : VCode :=
  (.seq
   (.region false [
    ⟨some 2, .mv, [.k (.b false)], none⟩])
   (.seq
    (.region false [
     ⟨some 3, .mv, [.t 0], none⟩,
     ⟨some 4, (.call g_impl_isYear), [.t 3], none⟩,
     ⟨some 5, .mv, [.t 4], none⟩,
     ⟨some 6, .mv, [.t 0], some (5, true)⟩,
     ⟨some 7, (.call g_impl_leaps), [.t 6], some (5, true)⟩,
     ⟨some 8, .pick, [.t 5, .t 7, .k (.b false)], none⟩,
     ⟨some 2, .mv, [.t 8], none⟩])
    .ret))

abbrev Is_impl_IsLeap (P : Program) (g_f : FuncId) (g_impl_isYear g_impl_leaps : FuncId) : Prop := FnIs P g_f 9 [.t 2] (b_impl_IsLeap g_impl_isYear g_impl_leaps)

abbrev C_impl_IsLeap (P : Program) (g_f : FuncId) : Prop := ∀ (y : Int) (hy : 1900 ≤ y ∧ y ≤ 2199), VCall P g_f [.i .i64 y] (.b (leapM y))
def oc1_impl_IsLeap (as : List AV) : T AV := match as with | [.i .i64 y] => .leaf (.b (leapM y)) | _ => .fail
def oc_impl_IsLeap (y : Int) (d : Nat) (as : List AV) : T AV := match d with | 4 => oc1_impl_isYear as | 7 => oc1_impl_leaps as | _ => .fail



theorem q_impl_IsLeap {P : Program} {g_f : FuncId} {g_impl_isYear g_impl_leaps : FuncId} (h_ : Is_impl_IsLeap P g_f g_impl_isYear g_impl_leaps) (y : Int) (ht : T.ok (fun x_ => x_ = .b (leapM y)) (
      T.ob ((VCall P) g_impl_isYear [AV.i IntKind.i64 y] (AV.b (inM y 1900 2199))) (T.ite (inM y 1900 2199) (T.ob ((VCall P) g_impl_leaps [AV.i IntKind.i64 y] (AV.b (leapM y))) (T.leaf (AV.b (leapM y)))) (T.leaf (AV.b false))))) :
    VCall P g_f [.i .i64 y] (.b (leapM y)) := h_.call_of ps_impl_IsLeap ⟨oc_impl_IsLeap y, fun _ _ => none⟩ (by kernel_rfl) ht

-- END impl_IsLeap

def moB (m : Int) : Int := [31, 28, 31, 30, 31, 30, 31, 31, 30, 31, 30, 31].getD (m - 1).toNat 0
def moM (y m : Int) : Int := if m = 2 ∧ leapM y = true then moB m + 1 else moB m
-- FN impl_longOfMonth
/-- impl.longOfMonth: slots 19, results [.t 4]; calls [14:g_impl_leaps]; names [(year, 0), (month, 1), (year, 2), (month, 3), (long, 5)] -/
def ps_impl_longOfMonth : List Nat := [0, 1, 4, 5, 15]
def b_impl_longOfMonth (g_impl_leaps : FuncId) : VCode :=
  (.seq
   (.region false [
    ⟨some 4, .mv, [.k (.i .i64 0)], none⟩])
   (.seq
    (.region false [
     ⟨some 6, (.build [(.i .i64 0), (.i .i64 0), (.i .i64 0), (.i .i64 0), (.i .i64 0), (.i .i64 0), (.i .i64 0), (.i .i64 0), (.i .i64 0), (.i .i64 0), (.i .i64 0), (.i .i64 0)] [0, 1, 2, 3, 4, 5, 6, 7, 8, 9, 10, 11]), [.k (.i .i64 31), .k (.i .i64 28), .k (.i .i64 31), .k (.i .i64 30), .k (.i .i64 31), .k (.i .i64 30), .k (.i .i64 31), .k (.i .i64 31), .k (.i .i64 30), .k (.i .i64 31), .k (.i .i64 30), .k (.i .i64 31)], none⟩,
     ⟨some 7, .mv, [.t 1], none⟩,
     ⟨some 8, (.bin .sub), [.t 7, .k (.i .i64 1)], none⟩,
     ⟨some 9, (.aidx 12), [.t 6, .t 8], none⟩,
     ⟨some 5, .mv, [.t 9], none⟩])
    (.seq
     (.seq
      (.region false [
       ⟨some 10, .mv, [.t 1], none⟩,
       ⟨some 11, (.bin .eql), [.t 10, .k (.i .i64 2)], none⟩,
       ⟨some 12, .mv, [.t 11], none⟩,
       ⟨some 13, .mv, [.t 0], some (12, true)⟩,
       ⟨some 14, (.call g_impl_leaps), [.t 13], some (12, true)⟩,
       ⟨some 15, .pick, [.t 12, .t 14, .k (.b false)], none⟩])
      (.cond (.t 15)
       (.region false [
        ⟨some 16, .mv, [.t 5], none⟩,
        ⟨some 17, (.bin .add), [.t 16, .k (.i .i64 1)], none⟩,
        ⟨some 5, .mv, [.t 17], none⟩])
       .skip))
     (.seq
      (.region false [
       ⟨some 18, .mv, [.t 5], none⟩,
       ⟨some 4, .mv, [.t 18], none⟩])
      .ret))))

abbrev Is_impl_longOfMonth (P : Program) (g_f : FuncId) (g_impl_leaps : FuncId) : Prop := FnIs P g_f 19 [.t 4] (b_impl_longOfMonth g_impl_leaps)

abbrev C_impl_longOfMonth (P : Program) (g_f : FuncId) : Prop := ∀ (y : Int) (m : Int) (hm : 1 ≤ m ∧ m ≤ 12), VCall P g_f [.i .i64 y, .i .i64 m] (.i .i64 (moM y m))
def oc1_impl_longOfMonth (as : List AV) : T AV := match as with | [.i .i64 y, .i .i64 m] => .leaf (.i .i64 (moM y m)) | _ => .fail
def oc_impl_longOfMonth (y : Int) (m : Int) (d : Nat) (as : List AV) : T AV := match d with | 14 => oc1_impl_leaps as | _ => .fail



theorem q_impl_longOfMonth {P : Program} {g_f : FuncId} {g_impl_leaps : FuncId} (h_ : Is_impl_longOfMonth P g_f g_impl_leaps) (y : Int) (m : Int) (ht : T.ok (fun x_ => x_ = .i .i64 (moM y m)) (
      T.ob (0 ≤ IntKind.wrap IntKind.i64 (m - 1) ∧ IntKind.wrap IntKind.i64 (m - 1) < 12)
        (T.ite (m == 2)
          (T.ob ((VCall P) g_impl_leaps [AV.i IntKind.i64 y] (AV.b (leapM y)))
            (T.ite (leapM y) (T.leaf (AV.i IntKind.i64 (IntKind.wrap IntKind.i64 (List.getD [31, 28, 31, 30, 31, 30, 31, 31, 30, 31, 30, 31] (Int.toNat (IntKind.wrap IntKind.i64 (m - 1))) 0 + 1))))
              (T.leaf (AV.i IntKind.i64 (List.getD [31, 28, 31, 30, 31, 30, 31, 31, 30, 31, 30, 31] (Int.toNat (IntKind.wrap IntKind.i64 (m - 1))) 0)))))
          (T.leaf (AV.i IntKind.i64 (List.getD [31, 28, 31, 30, 31, 30, 31, 31, 30, 31, 30, 31] (Int.toNat (IntKind.wrap IntKind.i64 (m - 1))) 0)))))) :
    VCall P g_f [.i .i64 y, .i .i64 m] (.i .i64 (moM y m)) := h_.call_of ps_impl_longOfMonth ⟨oc_impl_longOfMonth y m, fun _ _ => none⟩ (by kernel_rfl) ht

-- END impl_longOfMonth

-- FN impl_LongOfMonth
/-- impl.LongOfMonth: slots 17, results [.t 4, .t 5]; calls [7:g_impl_isYear, 11:g_impl_isMonth, 16:g_impl_longOfMonth]; names [(year, 0), (month, 1), (year, 2), (month, 3)] -/
def ps_impl_LongOfMonth : List Nat := [0, 1, 4, 5, 13]
def b_impl_LongOfMonth (g_impl_isYear g_impl_isMonth g_impl_longOfMonth : FuncId) : VCode :=
  (.seq
   (.region false [
    ⟨some 4, .mv, [.k (.i .i64 0)], none⟩,
    ⟨some 5, .mv, [.k (.b false)], none⟩])
   (.seq
    (.seq
     (.region false [
      ⟨some 6, .mv, [.t 0], none⟩,
      ⟨some 7, (.call g_impl_isYear), [.t 6], none⟩,
      ⟨some 8, .not, [.t 7], none⟩,
      ⟨some 9, .mv, [.t 8], none⟩,
      ⟨some 10, .mv, [.t 1], some (9, false)⟩,
      ⟨some 11, (.call g_impl_isMonth), [.t 10], some (9, false)⟩,
      ⟨some 12, .not, [.t 11], some (9, false)⟩,
      ⟨some 13, .pick, [.t 9, .k (.b true), .t 12], none⟩])
     (.cond (.t 13)
      (.seq
       (.region false [
        ⟨some 4, .mv, [.k (.i .i64 0)], none⟩,
        ⟨some 5, .mv, [.k (.b false)], none⟩])
       .ret)
      .skip))
    (.seq
     (.region false [
      ⟨some 14, .mv, [.t 0], none⟩,
      ⟨some 15, .mv, [.t 1], none⟩,
      ⟨some 16, (.call g_impl_longOfMonth), [.t 14, .t 15], none⟩,
      ⟨some 4, .mv, [.t 16], none⟩,
      ⟨some 5, .mv, [.k (.b true)], none⟩])
     .ret)))

abbrev Is_impl_LongOfMonth (P : Program) (g_f : FuncId) (g_impl_isYear g_impl_isMonth g_impl_longOfMonth : FuncId) : Prop := FnIs P g_f 17 [.t 4, .t 5] (b_impl_LongOfMonth g_impl_isYear g_impl_isMonth g_impl_longOfMonth)

abbrev C_impl_LongOfMonth (P : Program) (g_f : FuncId) : Prop := ∀ (y : Int) (m : Int) (hy : 1900 ≤ y ∧ y ≤ 2199) (hm : 1 ≤ m ∧ m ≤ 12), VCall P g_f [.i .i64 y, .i .i64 m] (.tup [.i .i64 (moM y m), .b true])
def oc1_impl_LongOfMonth (as : List AV) : T AV := match as with | [.i .i64 y, .i .i64 m] => .leaf (.tup [.i .i64 (moM y m), .b true]) | _ => .fail
def oc_impl_LongOfMonth (y : Int) (m : Int) (d : Nat) (as : List AV) : T AV := match d with | 7 => oc1_impl_isYear as | 11 => oc1_impl_isMonth as | 16 => oc1_impl_longOfMonth as | _ => .fail



theorem q_impl_LongOfMonth {P : Program} {g_f : FuncId} {g_impl_isYear g_impl_isMonth g_impl_longOfMonth : FuncId} (h_ : Is_impl_LongOfMonth P g_f g_impl_isYear g_impl_isMonth g_impl_longOfMonth) (y : Int) (m : Int) (ht : T.ok (fun x_ => x_ = .tup [.i .i64 (moM y m), .b true]) (
      T.ob ((VCall P) g_impl_isYear [AV.i IntKind.i64 y] (AV.b (inM y 1900 2199)))
        (T.ite (!inM y 1900 2199) (T.leaf (AV.tup [AV.i IntKind.i64 0, AV.b false]))
          (T.ob ((VCall P) g_impl_isMonth [AV.i IntKind.i64 m] (AV.b (inM m 1 12)))
            (T.ite (!inM m 1 12) (T.leaf (AV.tup [AV.i IntKind.i64 0, AV.b false]))
              (T.ob ((VCall P) g_impl_longOfMonth [AV.i IntKind.i64 y, AV.i IntKind.i64 m] (AV.i IntKind.i64 (moM y m))) (T.leaf (AV.tup [AV.i IntKind.i64 (moM y m), AV.b true])))))))) :
    VCall P g_f [.i .i64 y, .i .i64 m] (.tup [.i .i64 (moM y m), .b true]) := h_.call_of ps_impl_LongOfMonth ⟨oc_impl_LongOfMonth y m, fun _ _ => none⟩ (by kernel_rfl) ht

-- END impl_LongOfMonth

/-- the days of the first k months -/
def cumM (y : Int) (k : Nat) : Int := sumN k fun i => moM y (1 + i)
def dayM (y m d : Int) : Int := yearM y + d - 1 + cumM y (m - 1).toNat
-- FN impl_dayOf
/-- impl.dayOf: slots 25, results [.t 6]; calls [10:g_impl_newYear, 22:g_impl_longOfMonth]; names [(year, 0), (month, 1), (day, 2), (year, 3), (month, 4), (day, 5), (n, 7), (m, 8)] -/
def ps_impl_dayOf : List Nat := [0, 1, 2, 6, 7, 8, 16]
def lv_impl_dayOf_L0 : List Nat := [0, 1, 7, 8]
def b_impl_dayOf_L0 (g_impl_newYear g_impl_longOfMonth : FuncId) : VCode :=
  (.seq
   (.seq
    (.region false [
     ⟨some 14, .mv, [.t 8], none⟩,
     ⟨some 15, .mv, [.t 1], none⟩,
     ⟨some 16, (.bin .lss), [.t 14, .t 15], none⟩])
    (.cond (.t 16)
     .skip
     (.exit 0)))
   (.seq
    (.block 1
     (.region false [
      ⟨some 19, .mv, [.t 7], none⟩,
      ⟨some 20, .mv, [.t 0], none⟩,
      ⟨some 21, .mv, [.t 8], none⟩,
      ⟨some 22, (.call g_impl_longOfMonth), [.t 20, .t 21], none⟩,
      ⟨some 23, (.bin .add), [.t 19, .t 22], none⟩,
      ⟨some 7, .mv, [.t 23], none⟩]))
    (.region false [
     ⟨some 17, .mv, [.t 8], none⟩,
     ⟨some 18, (.bin .add), [.t 17, .k (.i .i64 1)], none⟩,
     ⟨some 8, .mv, [.t 18], none⟩])))

def b_impl_dayOf (g_impl_newYear g_impl_longOfMonth : FuncId) : VCode :=
  (.seq
   (.region false [
    ⟨some 6, .mv, [.k (.i .i64 0)], none⟩])
   (.seq
    (.region false [
     ⟨some 9, .mv, [.t 0], none⟩,
     ⟨some 10, (.call g_impl_newYear), [.t 9], none⟩,
     ⟨some 11, .mv, [.t 2], none⟩,
     ⟨some 12, (.bin .add), [.t 10, .t 11], none⟩,
     ⟨some 13, (.bin .sub), [.t 12, .k (.i .i64 1)], none⟩,
     ⟨some 7, .mv, [.t 13], none⟩])
    (.seq
     (.seq
      (.region false [
       ⟨some 8, .mv, [.k (.i .i64 1)], none⟩])
      (.block 0 (.loop (b_impl_dayOf_L0 g_impl_newYear g_impl_longOfMonth))))
     (.seq
      (.region false [
       ⟨some 24, .mv, [.t 7], none⟩,
       ⟨some 6, .mv, [.t 24], none⟩])
      .ret))))

abbrev Is_impl_dayOf (P : Program) (g_f : FuncId) (g_impl_newYear g_impl_longOfMonth : FuncId) : Prop := FnIs P g_f 25 [.t 6] (b_impl_dayOf g_impl_newYear g_impl_longOfMonth)

abbrev C_impl_dayOf (P : Program) (g_f : FuncId) : Prop := ∀ (y : Int) (m : Int) (d : Int) (hy : 1900 ≤ y ∧ y ≤ 2199) (hm : 1 ≤ m ∧ m ≤ 12) (hd : -1000 ≤ d ∧ d ≤ 1000), VCall P g_f [.i .i64 y, .i .i64 m, .i .i64 d] (.i .i64 (dayM y m d))
def oc1_impl_dayOf (as : List AV) : T AV := match as with | [.i .i64 y, .i .i64 m, .i .i64 d] => .leaf (.i .i64 (dayM y m d)) | _ => .fail
def oc_impl_dayOf (y : Int) (m : Int) (d : Int) (d : Nat) (as : List AV) : T AV := match d with | 10 => oc1_impl_newYear as | 22 => oc1_impl_longOfMonth as | _ => .fail
def h_impl_dayOf_L0 (y : Int) (m : Int) (d : Int) (n : Int) (m2 : Int) : Env := [AV.i IntKind.i64 y, AV.i IntKind.i64 m] ++ anys 5 ++ [.i IntKind.i64 n, .i IntKind.i64 m2] ++ anys 16

theorem q_impl_dayOf_L0 {VC : FuncId → List AV → AV → Prop} {g_impl_newYear g_impl_longOfMonth : FuncId} (y : Int) (m : Int) (d : Int) (n : Int) (m2 : Int) {e_ : Ex} {σ_ : Env} (ht : T.ok (fun x_ => x_ = (e_, σ_)) (
      T.ite (decide (m2 < m))
        (T.ob (VC g_impl_longOfMonth [AV.i IntKind.i64 y, AV.i IntKind.i64 m2] (AV.i IntKind.i64 (moM y m2)))
          (T.leaf (Ex.normal, h_impl_dayOf_L0 y m d (IntKind.wrap IntKind.i64 (n + moM y m2)) (IntKind.wrap IntKind.i64 (m2 + 1)))))
        (T.leaf (Ex.exit 0, h_impl_dayOf_L0 y m d n m2)))) :
    Exec VC ps_impl_dayOf (b_impl_dayOf_L0 g_impl_newYear g_impl_longOfMonth) (h_impl_dayOf_L0 y m d n m2) e_ σ_ := evL_of (lv := lv_impl_dayOf_L0) (rs := [6]) (O := ⟨oc_impl_dayOf y m d, fun _ _ => none⟩) (by kernel_rfl) ht

theorem q_impl_dayOf {P : Program} {g_f : FuncId} {g_impl_newYear g_impl_longOfMonth : FuncId} (h_ : Is_impl_dayOf P g_f g_impl_newYear g_impl_longOfMonth) (y : Int) (m : Int) (d : Int) (ht : T.ok (fun x_ => x_ = .i .i64 (dayM y m d)) (
      T.ob ((VCall P) g_impl_newYear [AV.i IntKind.i64 y] (AV.i IntKind.i64 (yearM y)))
        (T.ob
          (Exec (VCall P) ps_impl_dayOf (VCode.block 0 (VCode.loop (b_impl_dayOf_L0 g_impl_newYear g_impl_longOfMonth))) (h_impl_dayOf_L0 y m d (IntKind.wrap IntKind.i64 (IntKind.wrap IntKind.i64 (yearM y + d) - 1)) 1) Ex.normal
            (h_impl_dayOf_L0 y m d (dayM y m d) m))
          (T.leaf (AV.i IntKind.i64 (dayM y m d)))))) :
    VCall P g_f [.i .i64 y, .i .i64 m, .i .i64 d] (.i .i64 (dayM y m d)) := h_.call_of ps_impl_dayOf ⟨oc_impl_dayOf y m d, fun id σ => match id with | 0 => some (lv_impl_dayOf_L0, .leaf (.normal, h_impl_dayOf_L0 y m d (dayM y m d) m)) | _ => none⟩ (by kernel_rfl) ht

-- END impl_dayOf

-- FN impl_DayOf
/-- impl.DayOf: slots 28, results [.t 6, .t 7]; calls [13:g_impl_LongOfMonth, 21:g_impl_within, 27:g_impl_dayOf]; names [(year, 0), (month, 1), (day, 2), (year, 3), (month, 4), (day, 5), (long, 8), (ok, 9)] -/
def ps_impl_DayOf : List Nat := [0, 1, 2, 6, 7, 8, 9, 23]
def b_impl_DayOf (g_impl_LongOfMonth g_impl_within g_impl_dayOf : FuncId) : VCode :=
  (.seq
   (.region false [
    ⟨some 6, .mv, [.k (.i .i64 0)], none⟩,
    ⟨some 7, .mv, [.k (.b false)], none⟩])
   (.seq
    (.region false [
     ⟨some 11, .mv, [.t 0], none⟩,
     ⟨some 12, .mv, [.t 1], none⟩,
     ⟨some 13, (.call g_impl_LongOfMonth), [.t 11, .t 12], none⟩,
     ⟨some 10, .mv, [.t 13], none⟩,
     ⟨some 14, (.extract 0), [.t 10], none⟩,
     ⟨some 15, (.extract 1), [.t 10], none⟩,
     ⟨some 8, .mv, [.t 14], none⟩,
     ⟨some 9, .mv, [.t 15], none⟩])
    (.seq
     (.seq
      (.region false [
       ⟨some 16, .mv, [.t 9], none⟩,
       ⟨some 17, .not, [.t 16], none⟩,
       ⟨some 18, .mv, [.t 17], none⟩,
       ⟨some 19, .mv, [.t 2], some (18, false)⟩,
       ⟨some 20, .mv, [.t 8], some (18, false)⟩,
       ⟨some 21, (.call g_impl_within), [.t 19, .k (.i .i64 1), .t 20], some (18, false)⟩,
       ⟨some 22, .not, [.t 21], some (18, false)⟩,
       ⟨some 23, .pick, [.t 18, .k (.b true), .t 22], none⟩])
      (.cond (.t 23)
       (.seq
        (.region false [
         ⟨some 6, .mv, [.k (.i .i64 0)], none⟩,
         ⟨some 7, .mv, [.k (.b false)], none⟩])
        .ret)
       .skip))
     (.seq
      (.region false [
       ⟨some 24, .mv, [.t 0], none⟩,
       ⟨some 25, .mv, [.t 1], none⟩,
       ⟨some 26, .mv, [.t 2], none⟩,
       ⟨some 27, (.call g_impl_dayOf), [.t 24, .t 25, .t 26], none⟩,
       ⟨some 6, .mv, [.t 27], none⟩,
       ⟨some 7, .mv, [.k (.b true)], none⟩])
      .ret))))

abbrev Is_impl_DayOf (P : Program) (g_f : FuncId) (g_impl_LongOfMonth g_impl_within g_impl_dayOf : FuncId) : Prop := FnIs P g_f 28 [.t 6, .t 7] (b_impl_DayOf g_impl_LongOfMonth g_impl_within g_impl_dayOf)

abbrev C_impl_DayOf (P : Program) (g_f : FuncId) : Prop := ∀ (y : Int) (m : Int) (d : Int) (hy : 1900 ≤ y ∧ y ≤ 2199) (hm : 1 ≤ m ∧ m ≤ 12) (hd : 1 ≤ d ∧ d ≤ moM y m), VCall P g_f [.i .i64 y, .i .i64 m, .i .i64 d] (.tup [.i .i64 (dayM y m d), .b true])
def oc1_impl_DayOf (as : List AV) : T AV := match as with | [.i .i64 y, .i .i64 m, .i .i64 d] => .leaf (.tup [.i .i64 (dayM y m d), .b true]) | _ => .fail
def oc_impl_DayOf (y : Int) (m : Int) (d : Int) (d : Nat) (as : List AV) : T AV := match d with | 13 => oc1_impl_LongOfMonth as | 21 => oc1_impl_within as | 27 => oc1_impl_dayOf as | _ => .fail



theorem q_impl_DayOf {P : Program} {g_f : FuncId} {g_impl_LongOfMonth g_impl_within g_impl_dayOf : FuncId} (h_ : Is_impl_DayOf P g_f g_impl_LongOfMonth g_impl_within g_impl_dayOf) (y : Int) (m : Int) (d : Int) (ht : T.ok (fun x_ => x_ = .tup [.i .i64 (dayM y m d), .b true]) (
      T.ob ((VCall P) g_impl_LongOfMonth [AV.i IntKind.i64 y, AV.i IntKind.i64 m] (AV.tup [AV.i IntKind.i64 (moM y m), AV.b true]))
        (T.ite false (T.leaf (AV.tup [AV.i IntKind.i64 0, AV.b false]))
          (T.ob ((VCall P) g_impl_within [AV.i IntKind.i64 d, AV.i IntKind.i64 1, AV.i IntKind.i64 (moM y m)] (AV.b (inM d 1 (moM y m))))
            (T.ite (!inM d 1 (moM y m)) (T.leaf (AV.tup [AV.i IntKind.i64 0, AV.b false]))
              (T.ob ((VCall P) g_impl_dayOf [AV.i IntKind.i64 y, AV.i IntKind.i64 m, AV.i IntKind.i64 d] (AV.i IntKind.i64 (dayM y m d))) (T.leaf (AV.tup [AV.i IntKind.i64 (dayM y m d), AV.b true])))))))) :
    VCall P g_f [.i .i64 y, .i .i64 m, .i .i64 d] (.tup [.i .i64 (dayM y m d), .b true]) := h_.call_of ps_impl_DayOf ⟨oc_impl_DayOf y m d, fun _ _ => none⟩ (by kernel_rfl) ht

-- END impl_DayOf

/-- the year of a day -/
def yoK (n : Int) : Nat := (List.range 299).findIdx fun (k : Nat) => decide (n < yearM (1901 + (k : Int)))
def yoM (n : Int) : Int := 1900 + (yoK n : Int)
def yaM (n : Int) : Int := if 2000 + n.tdiv 366 ≤ yoM n then 2000 + n.tdiv 366 else yoM n
-- FN impl_yearOf
/-- impl.yearOf: slots 21, results [.t 2]; calls [8:g_impl_newYear, 15:g_impl_newYear]; names [(n, 0), (n, 1), (year, 3)] -/
def ps_impl_yearOf : List Nat := [0, 2, 3, 10, 17]
def lv_impl_yearOf_L0 : List Nat := [0, 3]
def lv_impl_yearOf_L2 : List Nat := [0, 3]
def b_impl_yearOf_L0 (g_impl_newYear : FuncId) : VCode :=
  (.seq
   (.seq
    (.region false [
     ⟨some 7, .mv, [.t 3], none⟩,
     ⟨some 8, (.call g_impl_newYear), [.t 7], none⟩,
     ⟨some 9, .mv, [.t 0], none⟩,
     ⟨some 10, (.bin .gtr), [.t 8, .t 9], none⟩])
    (.cond (.t 10)
     .skip
     (.exit 0)))
   (.block 1
    (.region false [
     ⟨some 11, .mv, [.t 3], none⟩,
     ⟨some 12, (.bin .sub), [.t 11, .k (.i .i64 1)], none⟩,
     ⟨some 3, .mv, [.t 12], none⟩])))

def b_impl_yearOf_L2 (g_impl_newYear : FuncId) : VCode :=
  (.seq
   (.seq
    (.region false [
     ⟨some 13, .mv, [.t 3], none⟩,
     ⟨some 14, (.bin .add), [.t 13, .k (.i .i64 1)], none⟩,
     ⟨some 15, (.call g_impl_newYear), [.t 14], none⟩,
     ⟨some 16, .mv, [.t 0], none⟩,
     ⟨some 17, (.bin .leq), [.t 15, .t 16], none⟩])
    (.cond (.t 17)
     .skip
     (.exit 2)))
   (.block 3
    (.region false [
     ⟨some 18, .mv, [.t 3], none⟩,
     ⟨some 19, (.bin .add), [.t 18, .k (.i .i64 1)], none⟩,
     ⟨some 3, .mv, [.t 19], none⟩])))

def b_impl_yearOf (g_impl_newYear : FuncId) : VCode :=
  (.seq
   (.region false [
    ⟨some 2, .mv, [.k (.i .i64 0)], none⟩])
   (.seq
    (.region false [
     ⟨some 4, .mv, [.t 0], none⟩,
     ⟨some 5, (.bin .quo), [.t 4, .k (.i .i64 366)], none⟩,
     ⟨some 6, (.bin .add), [.k (.i .i64 2000), .t 5], none⟩,
     ⟨some 3, .mv, [.t 6], none⟩])
    (.seq
     (.block 0 (.loop (b_impl_yearOf_L0 g_impl_newYear)))
     (.seq
      (.block 2 (.loop (b_impl_yearOf_L2 g_impl_newYear)))
      (.seq
       (.region false [
        ⟨some 20, .mv, [.t 3], none⟩,
        ⟨some 2, .mv, [.t 20], none⟩])
       .ret)))))

abbrev Is_impl_yearOf (P : Program) (g_f : FuncId) (g_impl_newYear : FuncId) : Prop := FnIs P g_f 21 [.t 2] (b_impl_yearOf g_impl_newYear)

abbrev C_impl_yearOf (P : Program) (g_f : FuncId) : Prop := ∀ (n : Int) (hn : -36524 ≤ n ∧ n ≤ 73048), VCall P g_f [.i .i64 n] (.i .i64 (yoM n))
def oc1_impl_yearOf (as : List AV) : T AV := match as with | [.i .i64 n] => .leaf (.i .i64 (yoM n)) | _ => .fail
def oc_impl_yearOf (n : Int) (d : Nat) (as : List AV) : T AV := match d with | 8 => oc1_impl_newYear as | 15 => oc1_impl_newYear as | _ => .fail
def h_impl_yearOf_L0 (n : Int) (year : Int) : Env := [AV.i IntKind.i64 n, .any, .any, .i IntKind.i64 year] ++ anys 17
def h_impl_yearOf_L2 (n : Int) (year : Int) : Env := [AV.i IntKind.i64 n, .any, .any, .i IntKind.i64 year] ++ anys 17

theorem q_impl_yearOf_L0 {VC : FuncId → List AV → AV → Prop} {g_impl_newYear : FuncId} (n : Int) (year : Int) {e_ : Ex} {σ_ : Env} (ht : T.ok (fun x_ => x_ = (e_, σ_)) (
      T.ob (VC g_impl_newYear [AV.i IntKind.i64 year] (AV.i IntKind.i64 (yearM year)))
        (T.ite (decide (yearM year > n)) (T.leaf (Ex.normal, h_impl_yearOf_L0 n (IntKind.wrap IntKind.i64 (year - 1)))) (T.leaf (Ex.exit 0, h_impl_yearOf_L0 n year))))) :
    Exec VC ps_impl_yearOf (b_impl_yearOf_L0 g_impl_newYear) (h_impl_yearOf_L0 n year) e_ σ_ := evL_of (lv := lv_impl_yearOf_L0) (rs := [2]) (O := ⟨oc_impl_yearOf n, fun _ _ => none⟩) (by kernel_rfl) ht

theorem q_impl_yearOf_L2 {VC : FuncId → List AV → AV → Prop} {g_impl_newYear : FuncId} (n : Int) (year : Int) {e_ : Ex} {σ_ : Env} (ht : T.ok (fun x_ => x_ = (e_, σ_)) (
      T.ob (VC g_impl_newYear [AV.i IntKind.i64 (IntKind.wrap IntKind.i64 (year + 1))] (AV.i IntKind.i64 (yearM (IntKind.wrap IntKind.i64 (year + 1)))))
        (T.ite (decide (yearM (IntKind.wrap IntKind.i64 (year + 1)) ≤ n)) (T.leaf (Ex.normal, h_impl_yearOf_L0 n (IntKind.wrap IntKind.i64 (year + 1)))) (T.leaf (Ex.exit 2, h_impl_yearOf_L0 n year))))) :
    Exec VC ps_impl_yearOf (b_impl_yearOf_L2 g_impl_newYear) (h_impl_yearOf_L2 n year) e_ σ_ := evL_of (lv := lv_impl_yearOf_L2) (rs := [2]) (O := ⟨oc_impl_yearOf n, fun _ _ => none⟩) (by kernel_rfl) ht

theorem q_impl_yearOf {P : Program} {g_f : FuncId} {g_impl_newYear : FuncId} (h_ : Is_impl_yearOf P g_f g_impl_newYear) (n : Int) (ht : T.ok (fun x_ => x_ = .i .i64 (yoM n)) (
      T.ob ((366 : Int) ≠ 0)
        (T.ob
          (Exec (VCall P) ps_impl_yearOf (VCode.block 0 (VCode.loop (b_impl_yearOf_L0 g_impl_newYear))) (h_impl_yearOf_L0 n (IntKind.wrap IntKind.i64 (2000 + IntKind.wrap IntKind.i64 (Int.tdiv n 366)))) Ex.normal
            (h_impl_yearOf_L0 n (yaM n)))
          (T.ob (Exec (VCall P) ps_impl_yearOf (VCode.block 2 (VCode.loop (b_impl_yearOf_L2 g_impl_newYear))) (h_impl_yearOf_L0 n (yaM n)) Ex.normal (h_impl_yearOf_L0 n (yoM n))) (T.leaf (AV.i IntKind.i64 (yoM n))))))) :
    VCall P g_f [.i .i64 n] (.i .i64 (yoM n)) := h_.call_of ps_impl_yearOf ⟨oc_impl_yearOf n, fun id σ => match id with | 0 => some (lv_impl_yearOf_L0, .leaf (.normal, h_impl_yearOf_L0 n (yaM n))) | 2 => some (lv_impl_yearOf_L2, .leaf (.normal, h_impl_yearOf_L2 n (yoM n))) | _ => none⟩ (by kernel_rfl) ht

-- END impl_yearOf

/-- the month, less 1, in which day d of a year is -/
def mfM (y d : Int) : Nat := (List.range 11).findIdx fun (k : Nat) => decide (d ≤ cumM y (k + 1))
-- FN impl_DateOf
/-- impl.DateOf: slots 34, results [.t 2, .t 3, .t 4, .t 5]; calls [10:g_impl_isDay, 13:g_impl_yearOf, 16:g_impl_newYear, 22:g_impl_longOfMonth, 27:g_impl_longOfMonth]; names [(n, 0), (n, 1), (year, 6), (month, 7), (day, 8)] -/
def ps_impl_DateOf : List Nat := [0, 2, 3, 4, 5, 6, 7, 8, 11, 23]
def lv_impl_DateOf_L0 : List Nat := [6, 7, 8]
def b_impl_DateOf_L0 (g_impl_isDay g_impl_yearOf g_impl_newYear g_impl_longOfMonth : FuncId) : VCode :=
  (.seq
   (.seq
    (.region false [
     ⟨some 19, .mv, [.t 8], none⟩,
     ⟨some 20, .mv, [.t 6], none⟩,
     ⟨some 21, .mv, [.t 7], none⟩,
     ⟨some 22, (.call g_impl_longOfMonth), [.t 20, .t 21], none⟩,
     ⟨some 23, (.bin .gtr), [.t 19, .t 22], none⟩])
    (.cond (.t 23)
     .skip
     (.exit 0)))
   (.block 1
    (.seq
     (.region false [
      ⟨some 24, .mv, [.t 8], none⟩,
      ⟨some 25, .mv, [.t 6], none⟩,
      ⟨some 26, .mv, [.t 7], none⟩,
      ⟨some 27, (.call g_impl_longOfMonth), [.t 25, .t 26], none⟩,
      ⟨some 28, (.bin .sub), [.t 24, .t 27], none⟩,
      ⟨some 8, .mv, [.t 28], none⟩])
     (.region false [
      ⟨some 29, .mv, [.t 7], none⟩,
      ⟨some 30, (.bin .add), [.t 29, .k (.i .i64 1)], none⟩,
      ⟨some 7, .mv, [.t 30], none⟩]))))

def b_impl_DateOf (g_impl_isDay g_impl_yearOf g_impl_newYear g_impl_longOfMonth : FuncId) : VCode :=
  (.seq
   (.region false [
    ⟨some 2, .mv, [.k (.i .i64 0)], none⟩,
    ⟨some 3, .mv, [.k (.i .i64 0)], none⟩,
    ⟨some 4, .mv, [.k (.i .i64 0)], none⟩,
    ⟨some 5, .mv, [.k (.b false)], none⟩])
   (.seq
    (.seq
     (.region false [
      ⟨some 9, .mv, [.t 0], none⟩,
      ⟨some 10, (.call g_impl_isDay), [.t 9], none⟩,
      ⟨some 11, .not, [.t 10], none⟩])
     (.cond (.t 11)
      (.seq
       (.region false [
        ⟨some 2, .mv, [.k (.i .i64 0)], none⟩,
        ⟨some 3, .mv, [.k (.i .i64 0)], none⟩,
        ⟨some 4, .mv, [.k (.i .i64 0)], none⟩,
        ⟨some 5, .mv, [.k (.b false)], none⟩])
       .ret)
      .skip))
    (.seq
     (.region false [
      ⟨some 12, .mv, [.t 0], none⟩,
      ⟨some 13, (.call g_impl_yearOf), [.t 12], none⟩,
      ⟨some 6, .mv, [.t 13], none⟩,
      ⟨some 7, .mv, [.k (.i .i64 1)], none⟩])
     (.seq
      (.region false [
       ⟨some 14, .mv, [.t 0], none⟩,
       ⟨some 15, .mv, [.t 6], none⟩,
       ⟨some 16, (.call g_impl_newYear), [.t 15], none⟩,
       ⟨some 17, (.bin .sub), [.t 14, .t 16], none⟩,
       ⟨some 18, (.bin .add), [.t 17, .k (.i .i64 1)], none⟩,
       ⟨some 8, .mv, [.t 18], none⟩])
      (.seq
       (.block 0 (.loop (b_impl_DateOf_L0 g_impl_isDay g_impl_yearOf g_impl_newYear g_impl_longOfMonth)))
       (.seq
        (.region false [
         ⟨some 31, .mv, [.t 6], none⟩,
         ⟨some 32, .mv, [.t 7], none⟩,
         ⟨some 33, .mv, [.t 8], none⟩,
         ⟨some 2, .mv, [.t 31], none⟩,
         ⟨some 3, .mv, [.t 32], none⟩,
         ⟨some 4, .mv, [.t 33], none⟩,
         ⟨some 5, .mv, [.k (.b true)], none⟩])
        .ret))))))

abbrev Is_impl_DateOf (P : Program) (g_f : FuncId) (g_impl_isDay g_impl_yearOf g_impl_newYear g_impl_longOfMonth : FuncId) : Prop := FnIs P g_f 34 [.t 2, .t 3, .t 4, .t 5] (b_impl_DateOf g_impl_isDay g_impl_yearOf g_impl_newYear g_impl_longOfMonth)

abbrev C_impl_DateOf (P : Program) (g_f : FuncId) : Prop := ∀ (n : Int) (hn : -36524 ≤ n ∧ n ≤ 73048), VCall P g_f [.i .i64 n] (.tup [.i .i64 (yoM n), .i .i64 (1 + (mfM (yoM n) (n - yearM (yoM n) + 1) : Nat)), .i .i64 (n - yearM (yoM n) + 1 - cumM (yoM n) (mfM (yoM n) (n - yearM (yoM n) + 1))), .b true])
def oc1_impl_DateOf (as : List AV) : T AV := match as with | [.i .i64 n] => .leaf (.tup [.i .i64 (yoM n), .i .i64 (1 + (mfM (yoM n) (n - yearM (yoM n) + 1) : Nat)), .i .i64 (n - yearM (yoM n) + 1 - cumM (yoM n) (mfM (yoM n) (n - yearM (yoM n) + 1))), .b true]) | _ => .fail
def oc_impl_DateOf (n : Int) (d : Nat) (as : List AV) : T AV := match d with | 10 => oc1_impl_isDay as | 13 => oc1_impl_yearOf as | 16 => oc1_impl_newYear as | 22 => oc1_impl_longOfMonth as | 27 => oc1_impl_longOfMonth as | _ => .fail
def h_impl_DateOf_L0 (n : Int) (month : Int) (day : Int) : Env := anys 6 ++ [AV.i IntKind.i64 (yoM n), .i IntKind.i64 month, .i IntKind.i64 day] ++ anys 25

theorem q_impl_DateOf_L0 {VC : FuncId → List AV → AV → Prop} {g_impl_isDay g_impl_yearOf g_impl_newYear g_impl_longOfMonth : FuncId} (n : Int) (month : Int) (day : Int) {e_ : Ex} {σ_ : Env} (ht : T.ok (fun x_ => x_ = (e_, σ_)) (
      T.ob (VC g_impl_longOfMonth [AV.i IntKind.i64 (yoM n), AV.i IntKind.i64 month] (AV.i IntKind.i64 (moM (yoM n) month)))
        (T.ite (decide (day > moM (yoM n) month))
          (T.ob (VC g_impl_longOfMonth [AV.i IntKind.i64 (yoM n), AV.i IntKind.i64 month] (AV.i IntKind.i64 (moM (yoM n) month)))
            (T.leaf (Ex.normal, h_impl_DateOf_L0 n (IntKind.wrap IntKind.i64 (month + 1)) (IntKind.wrap IntKind.i64 (day - moM (yoM n) month)))))
          (T.leaf (Ex.exit 0, h_impl_DateOf_L0 n month day))))) :
    Exec VC ps_impl_DateOf (b_impl_DateOf_L0 g_impl_isDay g_impl_yearOf g_impl_newYear g_impl_longOfMonth) (h_impl_DateOf_L0 n month day) e_ σ_ := evL_of (lv := lv_impl_DateOf_L0) (rs := [2, 3, 4, 5]) (O := ⟨oc_impl_DateOf n, fun _ _ => none⟩) (by kernel_rfl) ht

theorem q_impl_DateOf {P : Program} {g_f : FuncId} {g_impl_isDay g_impl_yearOf g_impl_newYear g_impl_longOfMonth : FuncId} (h_ : Is_impl_DateOf P g_f g_impl_isDay g_impl_yearOf g_impl_newYear g_impl_longOfMonth) (n : Int) (ht : T.ok (fun x_ => x_ = .tup [.i .i64 (yoM n), .i .i64 (1 + (mfM (yoM n) (n - yearM (yoM n) + 1) : Nat)), .i .i64 (n - yearM (yoM n) + 1 - cumM (yoM n) (mfM (yoM n) (n - yearM (yoM n) + 1))), .b true]) (
      T.ob ((VCall P) g_impl_isDay [AV.i IntKind.i64 n] (AV.b (isDayM n)))
        (T.ite (!isDayM n) (T.leaf (AV.tup [AV.i IntKind.i64 0, AV.i IntKind.i64 0, AV.i IntKind.i64 0, AV.b false]))
          (T.ob ((VCall P) g_impl_yearOf [AV.i IntKind.i64 n] (AV.i IntKind.i64 (yoM n)))
            (T.ob ((VCall P) g_impl_newYear [AV.i IntKind.i64 (yoM n)] (AV.i IntKind.i64 (yearM (yoM n))))
              (T.ob
                (Exec (VCall P) ps_impl_DateOf (VCode.block 0 (VCode.loop (b_impl_DateOf_L0 g_impl_isDay g_impl_yearOf g_impl_newYear g_impl_longOfMonth)))
                  (h_impl_DateOf_L0 n 1 (IntKind.wrap IntKind.i64 (IntKind.wrap IntKind.i64 (n - yearM (yoM n)) + 1))) Ex.normal
                  (h_impl_DateOf_L0 n (1 + (↑(mfM (yoM n) (n - yearM (yoM n) + 1)) : Int)) (n - yearM (yoM n) + 1 - cumM (yoM n) (mfM (yoM n) (n - yearM (yoM n) + 1)))))
                (T.leaf
                  (AV.tup
                    [AV.i IntKind.i64 (yoM n), AV.i IntKind.i64 (1 + (↑(mfM (yoM n) (n - yearM (yoM n) + 1)) : Int)), AV.i IntKind.i64 (n - yearM (yoM n) + 1 - cumM (yoM n) (mfM (yoM n) (n - yearM (yoM n) + 1))),
                      AV.b true])))))))) :
    VCall P g_f [.i .i64 n] (.tup [.i .i64 (yoM n), .i .i64 (1 + (mfM (yoM n) (n - yearM (yoM n) + 1) : Nat)), .i .i64 (n - yearM (yoM n) + 1 - cumM (yoM n) (mfM (yoM n) (n - yearM (yoM n) + 1))), .b true]) := h_.call_of ps_impl_DateOf ⟨oc_impl_DateOf n, fun id σ => match id with | 0 => some (lv_impl_DateOf_L0, .leaf (.normal, h_impl_DateOf_L0 n (1 + (mfM (yoM n) (n - yearM (yoM n) + 1) : Nat)) (n - yearM (yoM n) + 1 - cumM (yoM n) (mfM (yoM n) (n - yearM (yoM n) + 1))))) | _ => none⟩ (by kernel_rfl) ht

-- END impl_DateOf

-- FN impl_WeekdayOf
/-- impl.WeekdayOf: slots 9, results [.t 2, .t 3]; calls [5:g_impl_isDay, 8:g_impl_dayOfWeek]; names [(n, 0), (n, 1)] -/
def ps_impl_WeekdayOf : List Nat := [0, 2, 3, 6]
def b_impl_WeekdayOf (g_impl_isDay g_impl_dayOfWeek : FuncId) : VCode :=
  (.seq
   (.region false [
    ⟨some 2, .mv, [.k (.i .i64 0)], none⟩,
    ⟨some 3, .mv, [.k (.b false)], none⟩])
   (.seq
    (.seq
     (.region false [
      ⟨some 4, .mv, [.t 0], none⟩,
      ⟨some 5, (.call g_impl_isDay), [.t 4], none⟩,
      ⟨some 6, .not, [.t 5], none⟩])
     (.cond (.t 6)
      (.seq
       (.region false [
        ⟨some 2, .mv, [.k (.i .i64 0)], none⟩,
        ⟨some 3, .mv, [.k (.b false)], none⟩])
       .ret)
      .skip))
    (.seq
     (.region false [
      ⟨some 7, .mv, [.t 0], none⟩,
      ⟨some 8, (.call g_impl_dayOfWeek), [.t 7], none⟩,
      ⟨some 2, .mv, [.t 8], none⟩,
      ⟨some 3, .mv, [.k (.b true)], none⟩])
     .ret)))

abbrev Is_impl_WeekdayOf (P : Program) (g_f : FuncId) (g_impl_isDay g_impl_dayOfWeek : FuncId) : Prop := FnIs P g_f 9 [.t 2, .t 3] (b_impl_WeekdayOf g_impl_isDay g_impl_dayOfWeek)

abbrev C_impl_WeekdayOf (P : Program) (g_f : FuncId) : Prop := ∀ (n : Int) (hn : -36524 ≤ n ∧ n ≤ 73048), VCall P g_f [.i .i64 n] (.tup [.i .i64 (weekM n), .b true])
def oc1_impl_WeekdayOf (as : List AV) : T AV := match as with | [.i .i64 n] => .leaf (.tup [.i .i64 (weekM n), .b true]) | _ => .fail
def oc_impl_WeekdayOf (n : Int) (d : Nat) (as : List AV) : T AV := match d with | 5 => oc1_impl_isDay as | 8 => oc1_impl_dayOfWeek as | _ => .fail



theorem q_impl_WeekdayOf {P : Program} {g_f : FuncId} {g_impl_isDay g_impl_dayOfWeek : FuncId} (h_ : Is_impl_WeekdayOf P g_f g_impl_isDay g_impl_dayOfWeek) (n : Int) (ht : T.ok (fun x_ => x_ = .tup [.i .i64 (weekM n), .b true]) (
      T.ob ((VCall P) g_impl_isDay [AV.i IntKind.i64 n] (AV.b (isDayM n)))
        (T.ite (!isDayM n) (T.leaf (AV.tup [AV.i IntKind.i64 0, AV.b false])) (T.ob ((VCall P) g_impl_dayOfWeek [AV.i IntKind.i64 n] (AV.i IntKind.i64 (weekM n))) (T.leaf (AV.tup [AV.i IntKind.i64 (weekM n), AV.b true])))))) :
    VCall P g_f [.i .i64 n] (.tup [.i .i64 (weekM n), .b true]) := h_.call_of ps_impl_WeekdayOf ⟨oc_impl_WeekdayOf n, fun _ _ => none⟩ (by kernel_rfl) ht

-- END impl_WeekdayOf

def thuM (n : Int) : Int := n - weekM n + 3
-- FN impl_WeekOf
/-- impl.WeekOf: slots 27, results [.t 2, .t 3, .t 4]; calls [8:g_impl_isDay, 12:g_impl_dayOfWeek, 16:g_impl_isDay, 19:g_impl_yearOf, 23:g_impl_newYear]; names [(n, 0), (n, 1), (thursday, 5), (year, 6)] -/
def ps_impl_WeekOf : List Nat := [0, 2, 3, 4, 5, 6, 9, 17]
def b_impl_WeekOf (g_impl_isDay g_impl_dayOfWeek g_impl_yearOf g_impl_newYear : FuncId) : VCode :=
  (.seq
   (.region false [
    ⟨some 2, .mv, [.k (.i .i64 0)], none⟩,
    ⟨some 3, .mv, [.k (.i .i64 0)], none⟩,
    ⟨some 4, .mv, [.k (.b false)], none⟩])
   (.seq
    (.seq
     (.region false [
      ⟨some 7, .mv, [.t 0], none⟩,
      ⟨some 8, (.call g_impl_isDay), [.t 7], none⟩,
      ⟨some 9, .not, [.t 8], none⟩])
     (.cond (.t 9)
      (.seq
       (.region false [
        ⟨some 2, .mv, [.k (.i .i64 0)], none⟩,
        ⟨some 3, .mv, [.k (.i .i64 0)], none⟩,
        ⟨some 4, .mv, [.k (.b false)], none⟩])
       .ret)
      .skip))
    (.seq
     (.region false [
      ⟨some 10, .mv, [.t 0], none⟩,
      ⟨some 11, .mv, [.t 0], none⟩,
      ⟨some 12, (.call g_impl_dayOfWeek), [.t 11], none⟩,
      ⟨some 13, (.bin .sub), [.t 10, .t 12], none⟩,
      ⟨some 14, (.bin .add), [.t 13, .k (.i .i64 3)], none⟩,
      ⟨some 5, .mv, [.t 14], none⟩])
     (.seq
      (.seq
       (.region false [
        ⟨some 15, .mv, [.t 5], none⟩,
        ⟨some 16, (.call g_impl_isDay), [.t 15], none⟩,
        ⟨some 17, .not, [.t 16], none⟩])
       (.cond (.t 17)
        (.seq
         (.region false [
          ⟨some 2, .mv, [.k (.i .i64 0)], none⟩,
          ⟨some 3, .mv, [.k (.i .i64 0)], none⟩,
          ⟨some 4, .mv, [.k (.b false)], none⟩])
         .ret)
        .skip))
      (.seq
       (.region false [
        ⟨some 18, .mv, [.t 5], none⟩,
        ⟨some 19, (.call g_impl_yearOf), [.t 18], none⟩,
        ⟨some 6, .mv, [.t 19], none⟩])
       (.seq
        (.region false [
         ⟨some 20, .mv, [.t 6], none⟩,
         ⟨some 21, .mv, [.t 5], none⟩,
         ⟨some 22, .mv, [.t 6], none⟩,
         ⟨some 23, (.call g_impl_newYear), [.t 22], none⟩,
         ⟨some 24, (.bin .sub), [.t 21, .t 23], none⟩,
         ⟨some 25, (.bin .quo), [.t 24, .k (.i .i64 7)], none⟩,
         ⟨some 26, (.bin .add), [.t 25, .k (.i .i64 1)], none⟩,
         ⟨some 2, .mv, [.t 20], none⟩,
         ⟨some 3, .mv, [.t 26], none⟩,
         ⟨some 4, .mv, [.k (.b true)], none⟩])
        .ret))))))

abbrev Is_impl_WeekOf (P : Program) (g_f : FuncId) (g_impl_isDay g_impl_dayOfWeek g_impl_yearOf g_impl_newYear : FuncId) : Prop := FnIs P g_f 27 [.t 2, .t 3, .t 4] (b_impl_WeekOf g_impl_isDay g_impl_dayOfWeek g_impl_yearOf g_impl_newYear)

abbrev C_impl_WeekOf (P : Program) (g_f : FuncId) : Prop := ∀ (n : Int) (hn : -36500 ≤ n ∧ n ≤ 73000), VCall P g_f [.i .i64 n] (.tup [.i .i64 (yoM (thuM n)), .i .i64 ((thuM n - yearM (yoM (thuM n))).tdiv 7 + 1), .b true])
def oc1_impl_WeekOf (as : List AV) : T AV := match as with | [.i .i64 n] => .leaf (.tup [.i .i64 (yoM (thuM n)), .i .i64 ((thuM n - yearM (yoM (thuM n))).tdiv 7 + 1), .b true]) | _ => .fail
def oc_impl_WeekOf (n : Int) (d : Nat) (as : List AV) : T AV := match d with | 8 => oc1_impl_isDay as | 12 => oc1_impl_dayOfWeek as | 16 => oc1_impl_isDay as | 19 => oc1_impl_yearOf as | 23 => oc1_impl_newYear as | _ => .fail



theorem q_impl_WeekOf {P : Program} {g_f : FuncId} {g_impl_isDay g_impl_dayOfWeek g_impl_yearOf g_impl_newYear : FuncId} (h_ : Is_impl_WeekOf P g_f g_impl_isDay g_impl_dayOfWeek g_impl_yearOf g_impl_newYear) (n : Int) (ht : T.ok (fun x_ => x_ = .tup [.i .i64 (yoM (thuM n)), .i .i64 ((thuM n - yearM (yoM (thuM n))).tdiv 7 + 1), .b true]) (
      T.ob ((VCall P) g_impl_isDay [AV.i IntKind.i64 n] (AV.b (isDayM n)))
        (T.ite (!isDayM n) (T.leaf (AV.tup [AV.i IntKind.i64 0, AV.i IntKind.i64 0, AV.b false]))
          (T.ob ((VCall P) g_impl_dayOfWeek [AV.i IntKind.i64 n] (AV.i IntKind.i64 (weekM n)))
            (T.ob ((VCall P) g_impl_isDay [AV.i IntKind.i64 (IntKind.wrap IntKind.i64 (IntKind.wrap IntKind.i64 (n - weekM n) + 3))] (AV.b (isDayM (IntKind.wrap IntKind.i64 (IntKind.wrap IntKind.i64 (n - weekM n) + 3)))))
              (T.ite (!isDayM (IntKind.wrap IntKind.i64 (IntKind.wrap IntKind.i64 (n - weekM n) + 3))) (T.leaf (AV.tup [AV.i IntKind.i64 0, AV.i IntKind.i64 0, AV.b false]))
                (T.ob
                  ((VCall P) g_impl_yearOf [AV.i IntKind.i64 (IntKind.wrap IntKind.i64 (IntKind.wrap IntKind.i64 (n - weekM n) + 3))] (AV.i IntKind.i64 (yoM (IntKind.wrap IntKind.i64 (IntKind.wrap IntKind.i64 (n - weekM n) + 3)))))
                  (T.ob
                    ((VCall P) g_impl_newYear [AV.i IntKind.i64 (yoM (IntKind.wrap IntKind.i64 (IntKind.wrap IntKind.i64 (n - weekM n) + 3)))]
                      (AV.i IntKind.i64 (yearM (yoM (IntKind.wrap IntKind.i64 (IntKind.wrap IntKind.i64 (n - weekM n) + 3))))))
                    (T.ob ((7 : Int) ≠ 0)
                      (T.leaf
                        (AV.tup
                          [AV.i IntKind.i64 (yoM (IntKind.wrap IntKind.i64 (IntKind.wrap IntKind.i64 (n - weekM n) + 3))),
                            AV.i IntKind.i64
                              (IntKind.wrap IntKind.i64
                                (IntKind.wrap IntKind.i64
                                    (Int.tdiv
                                      (IntKind.wrap IntKind.i64 (IntKind.wrap IntKind.i64 (IntKind.wrap IntKind.i64 (n - weekM n) + 3) - yearM (yoM (IntKind.wrap IntKind.i64 (IntKind.wrap IntKind.i64 (n - weekM n) + 3)))))
                                      7) +
                                  1)),
                            AV.b true]))))))))))) :
    VCall P g_f [.i .i64 n] (.tup [.i .i64 (yoM (thuM n)), .i .i64 ((thuM n - yearM (yoM (thuM n))).tdiv 7 + 1), .b true]) := h_.call_of ps_impl_WeekOf ⟨oc_impl_WeekOf n, fun _ _ => none⟩ (by kernel_rfl) ht

-- END impl_WeekOf

def eaH (y : Int) : Int := (19 * y.tmod 19 + y.tdiv 100 - (y.tdiv 100).tdiv 4 - (y.tdiv 100 - (y.tdiv 100 + 8).tdiv 25 + 1).tdiv 3 + 15).tmod 30
def eaL (y : Int) : Int := (32 + 2 * (y.tdiv 100).tmod 4 + 2 * (y.tmod 100).tdiv 4 - eaH y - (y.tmod 100).tmod 4).tmod 7
def eaM (y : Int) : Int := (y.tmod 19 + 11 * eaH y + 22 * eaL y).tdiv 451
def eaS (y : Int) : Int := eaH y + eaL y - 7 * eaM y + 114
-- FN impl_EasterOf
/-- impl.EasterOf: slots 85, results [.t 2, .t 3]; calls [18:g_impl_isYear, 84:g_impl_dayOf]; names [(year, 0), (year, 1), (a, 4), (b, 5), (c, 6), (d, 7), (e, 8), (f, 9), (g, 10), (h, 11), (i, 12), (k, 13), (l, 14), (m, 15), (s, 16)] -/
def ps_impl_EasterOf : List Nat := [0, 2, 3, 4, 5, 6, 7, 8, 9, 10, 11, 12, 13, 14, 15, 16, 19]
def b_impl_EasterOf (g_impl_isYear g_impl_dayOf : FuncId) : VCode :=
  (.seq
   (.region false [
    ⟨some 2, .mv, [.k (.i .i64 0)], none⟩,
    ⟨some 3, .mv, [.k (.b false)], none⟩])
   (.seq
    (.seq
     (.region false [
      ⟨some 17, .mv, [.t 0], none⟩,
      ⟨some 18, (.call g_impl_isYear), [.t 17], none⟩,
      ⟨some 19, .not, [.t 18], none⟩])
     (.cond (.t 19)
      (.seq
       (.region false [
        ⟨some 2, .mv, [.k (.i .i64 0)], none⟩,
        ⟨some 3, .mv, [.k (.b false)], none⟩])
       .ret)
      .skip))
    (.seq
     (.region false [
      ⟨some 20, .mv, [.t 0], none⟩,
      ⟨some 21, (.bin .rem), [.t 20, .k (.i .i64 19)], none⟩,
      ⟨some 22, .mv, [.t 0], none⟩,
      ⟨some 23, (.bin .quo), [.t 22, .k (.i .i64 100)], none⟩,
      ⟨some 24, .mv, [.t 0], none⟩,
      ⟨some 25, (.bin .rem), [.t 24, .k (.i .i64 100)], none⟩,
      ⟨some 4, .mv, [.t 21], none⟩,
      ⟨some 5, .mv, [.t 23], none⟩,
      ⟨some 6, .mv, [.t 25], none⟩])
     (.seq
      (.region false [
       ⟨some 26, .mv, [.t 5], none⟩,
       ⟨some 27, (.bin .quo), [.t 26, .k (.i .i64 4)], none⟩,
       ⟨some 28, .mv, [.t 5], none⟩,
       ⟨some 29, (.bin .rem), [.t 28, .k (.i .i64 4)], none⟩,
       ⟨some 7, .mv, [.t 27], none⟩,
       ⟨some 8, .mv, [.t 29], none⟩])
      (.seq
       (.region false [
        ⟨some 30, .mv, [.t 5], none⟩,
        ⟨some 31, (.bin .add), [.t 30, .k (.i .i64 8)], none⟩,
        ⟨some 32, (.bin .quo), [.t 31, .k (.i .i64 25)], none⟩,
        ⟨some 9, .mv, [.t 32], none⟩])
       (.seq
        (.region false [
         ⟨some 33, .mv, [.t 5], none⟩,
         ⟨some 34, .mv, [.t 9], none⟩,
         ⟨some 35, (.bin .sub), [.t 33, .t 34], none⟩,
         ⟨some 36, (.bin .add), [.t 35, .k (.i .i64 1)], none⟩,
         ⟨some 37, (.bin .quo), [.t 36, .k (.i .i64 3)], none⟩,
         ⟨some 10, .mv, [.t 37], none⟩])
        (.seq
         (.region false [
          ⟨some 38, .mv, [.t 4], none⟩,
          ⟨some 39, (.bin .mul), [.k (.i .i64 19), .t 38], none⟩,
          ⟨some 40, .mv, [.t 5], none⟩,
          ⟨some 41, (.bin .add), [.t 39, .t 40], none⟩,
          ⟨some 42, .mv, [.t 7], none⟩,
          ⟨some 43, (.bin .sub), [.t 41, .t 42], none⟩,
          ⟨some 44, .mv, [.t 10], none⟩,
          ⟨some 45, (.bin .sub), [.t 43, .t 44], none⟩,
          ⟨some 46, (.bin .add), [.t 45, .k (.i .i64 15)], none⟩,
          ⟨some 47, (.bin .rem), [.t 46, .k (.i .i64 30)], none⟩,
          ⟨some 11, .mv, [.t 47], none⟩])
         (.seq
          (.region false [
           ⟨some 48, .mv, [.t 6], none⟩,
           ⟨some 49, (.bin .quo), [.t 48, .k (.i .i64 4)], none⟩,
           ⟨some 50, .mv, [.t 6], none⟩,
           ⟨some 51, (.bin .rem), [.t 50, .k (.i .i64 4)], none⟩,
           ⟨some 12, .mv, [.t 49], none⟩,
           ⟨some 13, .mv, [.t 51], none⟩])
          (.seq
           (.region false [
            ⟨some 52, .mv, [.t 8], none⟩,
            ⟨some 53, (.bin .mul), [.k (.i .i64 2), .t 52], none⟩,
            ⟨some 54, (.bin .add), [.k (.i .i64 32), .t 53], none⟩,
            ⟨some 55, .mv, [.t 12], none⟩,
            ⟨some 56, (.bin .mul), [.k (.i .i64 2), .t 55], none⟩,
            ⟨some 57, (.bin .add), [.t 54, .t 56], none⟩,
            ⟨some 58, .mv, [.t 11], none⟩,
            ⟨some 59, (.bin .sub), [.t 57, .t 58], none⟩,
            ⟨some 60, .mv, [.t 13], none⟩,
            ⟨some 61, (.bin .sub), [.t 59, .t 60], none⟩,
            ⟨some 62, (.bin .rem), [.t 61, .k (.i .i64 7)], none⟩,
            ⟨some 14, .mv, [.t 62], none⟩])
           (.seq
            (.region false [
             ⟨some 63, .mv, [.t 4], none⟩,
             ⟨some 64, .mv, [.t 11], none⟩,
             ⟨some 65, (.bin .mul), [.k (.i .i64 11), .t 64], none⟩,
             ⟨some 66, (.bin .add), [.t 63, .t 65], none⟩,
             ⟨some 67, .mv, [.t 14], none⟩,
             ⟨some 68, (.bin .mul), [.k (.i .i64 22), .t 67], none⟩,
             ⟨some 69, (.bin .add), [.t 66, .t 68], none⟩,
             ⟨some 70, (.bin .quo), [.t 69, .k (.i .i64 451)], none⟩,
             ⟨some 15, .mv, [.t 70], none⟩])
            (.seq
             (.region false [
              ⟨some 71, .mv, [.t 11], none⟩,
              ⟨some 72, .mv, [.t 14], none⟩,
              ⟨some 73, (.bin .add), [.t 71, .t 72], none⟩,
              ⟨some 74, .mv, [.t 15], none⟩,
              ⟨some 75, (.bin .mul), [.k (.i .i64 7), .t 74], none⟩,
              ⟨some 76, (.bin .sub), [.t 73, .t 75], none⟩,
              ⟨some 77, (.bin .add), [.t 76, .k (.i .i64 114)], none⟩,
              ⟨some 16, .mv, [.t 77], none⟩])
             (.seq
              (.region false [
               ⟨some 78, .mv, [.t 0], none⟩,
               ⟨some 79, .mv, [.t 16], none⟩,
               ⟨some 80, (.bin .quo), [.t 79, .k (.i .i64 31)], none⟩,
               ⟨some 81, .mv, [.t 16], none⟩,
               ⟨some 82, (.bin .rem), [.t 81, .k (.i .i64 31)], none⟩,
               ⟨some 83, (.bin .add), [.t 82, .k (.i .i64 1)], none⟩,
               ⟨some 84, (.call g_impl_dayOf), [.t 78, .t 80, .t 83], none⟩,
               ⟨some 2, .mv, [.t 84], none⟩,
               ⟨some 3, .mv, [.k (.b true)], none⟩])
              .ret))))))))))))

abbrev Is_impl_EasterOf (P : Program) (g_f : FuncId) (g_impl_isYear g_impl_dayOf : FuncId) : Prop := FnIs P g_f 85 [.t 2, .t 3] (b_impl_EasterOf g_impl_isYear g_impl_dayOf)

abbrev C_impl_EasterOf (P : Program) (g_f : FuncId) : Prop := ∀ (y : Int) (hy : 1900 ≤ y ∧ y ≤ 2199), VCall P g_f [.i .i64 y] (.tup [.i .i64 (dayM y ((eaS y).tdiv 31) ((eaS y).tmod 31 + 1)), .b true])
def oc1_impl_EasterOf (as : List AV) : T AV := match as with | [.i .i64 y] => .leaf (.tup [.i .i64 (dayM y ((eaS y).tdiv 31) ((eaS y).tmod 31 + 1)), .b true]) | _ => .fail
def oc_impl_EasterOf (y : Int) (d : Nat) (as : List AV) : T AV := match d with | 18 => oc1_impl_isYear as | 84 => oc1_impl_dayOf as | _ => .fail



theorem q_impl_EasterOf {P : Program} {g_f : FuncId} {g_impl_isYear g_impl_dayOf : FuncId} (h_ : Is_impl_EasterOf P g_f g_impl_isYear g_impl_dayOf) (y : Int) (ht : T.ok (fun x_ => x_ = .tup [.i .i64 (dayM y ((eaS y).tdiv 31) ((eaS y).tmod 31 + 1)), .b true]) (
      T.ob ((VCall P) g_impl_isYear [AV.i IntKind.i64 y] (AV.b (inM y 1900 2199)))
        (T.ite (!inM y 1900 2199) (T.leaf (AV.tup [AV.i IntKind.i64 0, AV.b false]))
          (T.ob ((19 : Int) ≠ 0)
            (T.ob ((100 : Int) ≠ 0)
              (T.ob ((100 : Int) ≠ 0)
                (T.ob ((4 : Int) ≠ 0)
                  (T.ob ((4 : Int) ≠ 0)
                    (T.ob ((25 : Int) ≠ 0)
                      (T.ob ((3 : Int) ≠ 0)
                        (T.ob ((30 : Int) ≠ 0)
                          (T.ob ((4 : Int) ≠ 0)
                            (T.ob ((4 : Int) ≠ 0)
                              (T.ob ((7 : Int) ≠ 0)
                                (T.ob ((451 : Int) ≠ 0)
                                  (T.ob ((31 : Int) ≠ 0)
                                    (T.ob ((31 : Int) ≠ 0)
                                      (T.ob
                                        ((VCall P) g_impl_dayOf
                                          [AV.i IntKind.i64 y,
                                            AV.i IntKind.i64
                                              (IntKind.wrap IntKind.i64
                                                (Int.tdiv
                                                  (IntKind.wrap IntKind.i64
                                                    (IntKind.wrap IntKind.i64
                                                        (IntKind.wrap IntKind.i64
                                                            (Int.tmod
                                                                (IntKind.wrap IntKind.i64
                                                                  (IntKind.wrap IntKind.i64
                                                                      (IntKind.wrap IntKind.i64
                                                                          (IntKind.wrap IntKind.i64 (IntKind.wrap IntKind.i64 (19 * Int.tmod y 19) + IntKind.wrap IntKind.i64 (Int.tdiv y 100)) -
                                                                            IntKind.wrap IntKind.i64 (Int.tdiv (IntKind.wrap IntKind.i64 (Int.tdiv y 100)) 4)) -
                                                                        IntKind.wrap IntKind.i64
                                                                          (Int.tdiv
                                                                            (IntKind.wrap IntKind.i64
                                                                              (IntKind.wrap IntKind.i64
                                                                                  (IntKind.wrap IntKind.i64 (Int.tdiv y 100) -
                                                                                    IntKind.wrap IntKind.i64 (Int.tdiv (IntKind.wrap IntKind.i64 (IntKind.wrap IntKind.i64 (Int.tdiv y 100) + 8)) 25)) +
                                                                                1))
                                                                            3)) +
                                                                    15))
                                                                30 +
                                                              Int.tmod
                                                                (IntKind.wrap IntKind.i64
                                                                  (IntKind.wrap IntKind.i64
                                                                      (IntKind.wrap IntKind.i64
                                                                          (IntKind.wrap IntKind.i64 (32 + IntKind.wrap IntKind.i64 (2 * Int.tmod (IntKind.wrap IntKind.i64 (Int.tdiv y 100)) 4)) +
                                                                            IntKind.wrap IntKind.i64 (2 * IntKind.wrap IntKind.i64 (Int.tdiv (Int.tmod y 100) 4))) -
                                                                        Int.tmod
                                                                          (IntKind.wrap IntKind.i64
                                                                            (IntKind.wrap IntKind.i64
                                                                                (IntKind.wrap IntKind.i64
                                                                                    (IntKind.wrap IntKind.i64 (IntKind.wrap IntKind.i64 (19 * Int.tmod y 19) + IntKind.wrap IntKind.i64 (Int.tdiv y 100)) -
                                                                                      IntKind.wrap IntKind.i64 (Int.tdiv (IntKind.wrap IntKind.i64 (Int.tdiv y 100)) 4)) -
                                                                                  IntKind.wrap IntKind.i64
                                                                                    (Int.tdiv
                                                                                      (IntKind.wrap IntKind.i64
                                                                                        (IntKind.wrap IntKind.i64
                                                                                            (IntKind.wrap IntKind.i64 (Int.tdiv y 100) -
                                                                                              IntKind.wrap IntKind.i64 (Int.tdiv (IntKind.wrap IntKind.i64 (IntKind.wrap IntKind.i64 (Int.tdiv y 100) + 8)) 25)) +
                                                                                          1))
                                                                                      3)) +
                                                                              15))
                                                                          30) -
                                                                    Int.tmod (Int.tmod y 100) 4))
                                                                7) -
                                                          IntKind.wrap IntKind.i64
                                                            (7 *
                                                              IntKind.wrap IntKind.i64
                                                                (Int.tdiv
                                                                  (IntKind.wrap IntKind.i64
                                                                    (IntKind.wrap IntKind.i64
                                                                        (Int.tmod y 19 +
                                                                          IntKind.wrap IntKind.i64
                                                                            (11 *
                                                                              Int.tmod
                                                                                (IntKind.wrap IntKind.i64
                                                                                  (IntKind.wrap IntKind.i64
                                                                                      (IntKind.wrap IntKind.i64
                                                                                          (IntKind.wrap IntKind.i64 (IntKind.wrap IntKind.i64 (19 * Int.tmod y 19) + IntKind.wrap IntKind.i64 (Int.tdiv y 100)) -
                                                                                            IntKind.wrap IntKind.i64 (Int.tdiv (IntKind.wrap IntKind.i64 (Int.tdiv y 100)) 4)) -
                                                                                        IntKind.wrap IntKind.i64
                                                                                          (Int.tdiv
                                                                                            (IntKind.wrap IntKind.i64
                                                                                              (IntKind.wrap IntKind.i64
                                                                                                  (IntKind.wrap IntKind.i64 (Int.tdiv y 100) -
                                                                                                    IntKind.wrap IntKind.i64 (Int.tdiv (IntKind.wrap IntKind.i64 (IntKind.wrap IntKind.i64 (Int.tdiv y 100) + 8)) 25)) +
                                                                                                1))
                                                                                            3)) +
                                                                                    15))
                                                                                30)) +
                                                                      IntKind.wrap IntKind.i64
                                                                        (22 *
                                                                          Int.tmod
                                                                            (IntKind.wrap IntKind.i64
                                                                              (IntKind.wrap IntKind.i64
                                                                                  (IntKind.wrap IntKind.i64
                                                                                      (IntKind.wrap IntKind.i64 (32 + IntKind.wrap IntKind.i64 (2 * Int.tmod (IntKind.wrap IntKind.i64 (Int.tdiv y 100)) 4)) +
                                                                                        IntKind.wrap IntKind.i64 (2 * IntKind.wrap IntKind.i64 (Int.tdiv (Int.tmod y 100) 4))) -
                                                                                    Int.tmod
                                                                                      (IntKind.wrap IntKind.i64
                                                                                        (IntKind.wrap IntKind.i64
                                                                                            (IntKind.wrap IntKind.i64
                                                                                                (IntKind.wrap IntKind.i64 (IntKind.wrap IntKind.i64 (19 * Int.tmod y 19) + IntKind.wrap IntKind.i64 (Int.tdiv y 100)) -
                                                                                                  IntKind.wrap IntKind.i64 (Int.tdiv (IntKind.wrap IntKind.i64 (Int.tdiv y 100)) 4)) -
                                                                                              IntKind.wrap IntKind.i64
                                                                                                (Int.tdiv
                                                                                                  (IntKind.wrap IntKind.i64
                                                                                                    (IntKind.wrap IntKind.i64
                                                                                                        (IntKind.wrap IntKind.i64 (Int.tdiv y 100) -
                                                                                                          IntKind.wrap IntKind.i64 (Int.tdiv (IntKind.wrap IntKind.i64 (IntKind.wrap IntKind.i64 (Int.tdiv y 100) + 8)) 25)) +
                                                                                                      1))
                                                                                                  3)) +
                                                                                          15))
                                                                                      30) -
                                                                                Int.tmod (Int.tmod y 100) 4))
                                                                            7)))
                                                                  451))) +
                                                      114))
                                                  31)),
                                            AV.i IntKind.i64
                                              (IntKind.wrap IntKind.i64
                                                (Int.tmod
                                                    (IntKind.wrap IntKind.i64
                                                      (IntKind.wrap IntKind.i64
                                                          (IntKind.wrap IntKind.i64
                                                              (Int.tmod
                                                                  (IntKind.wrap IntKind.i64
                                                                    (IntKind.wrap IntKind.i64
                                                                        (IntKind.wrap IntKind.i64
                                                                            (IntKind.wrap IntKind.i64 (IntKind.wrap IntKind.i64 (19 * Int.tmod y 19) + IntKind.wrap IntKind.i64 (Int.tdiv y 100)) -
                                                                              IntKind.wrap IntKind.i64 (Int.tdiv (IntKind.wrap IntKind.i64 (Int.tdiv y 100)) 4)) -
                                                                          IntKind.wrap IntKind.i64
                                                                            (Int.tdiv
                                                                              (IntKind.wrap IntKind.i64
                                                                                (IntKind.wrap IntKind.i64
                                                                                    (IntKind.wrap IntKind.i64 (Int.tdiv y 100) -
                                                                                      IntKind.wrap IntKind.i64 (Int.tdiv (IntKind.wrap IntKind.i64 (IntKind.wrap IntKind.i64 (Int.tdiv y 100) + 8)) 25)) +
                                                                                  1))
                                                                              3)) +
                                                                      15))
                                                                  30 +
                                                                Int.tmod
                                                                  (IntKind.wrap IntKind.i64
                                                                    (IntKind.wrap IntKind.i64
                                                                        (IntKind.wrap IntKind.i64
                                                                            (IntKind.wrap IntKind.i64 (32 + IntKind.wrap IntKind.i64 (2 * Int.tmod (IntKind.wrap IntKind.i64 (Int.tdiv y 100)) 4)) +
                                                                              IntKind.wrap IntKind.i64 (2 * IntKind.wrap IntKind.i64 (Int.tdiv (Int.tmod y 100) 4))) -
                                                                          Int.tmod
                                                                            (IntKind.wrap IntKind.i64
                                                                              (IntKind.wrap IntKind.i64
                                                                                  (IntKind.wrap IntKind.i64
                                                                                      (IntKind.wrap IntKind.i64 (IntKind.wrap IntKind.i64 (19 * Int.tmod y 19) + IntKind.wrap IntKind.i64 (Int.tdiv y 100)) -
                                                                                        IntKind.wrap IntKind.i64 (Int.tdiv (IntKind.wrap IntKind.i64 (Int.tdiv y 100)) 4)) -
                                                                                    IntKind.wrap IntKind.i64
                                                                                      (Int.tdiv
                                                                                        (IntKind.wrap IntKind.i64
                                                                                          (IntKind.wrap IntKind.i64
                                                                                              (IntKind.wrap IntKind.i64 (Int.tdiv y 100) -
                                                                                                IntKind.wrap IntKind.i64 (Int.tdiv (IntKind.wrap IntKind.i64 (IntKind.wrap IntKind.i64 (Int.tdiv y 100) + 8)) 25)) +
                                                                                            1))
                                                                                        3)) +
                                                                                15))
                                                                            30) -
                                                                      Int.tmod (Int.tmod y 100) 4))
                                                                  7) -
                                                            IntKind.wrap IntKind.i64
                                                              (7 *
                                                                IntKind.wrap IntKind.i64
                                                                  (Int.tdiv
                                                                    (IntKind.wrap IntKind.i64
                                                                      (IntKind.wrap IntKind.i64
                                                                          (Int.tmod y 19 +
                                                                            IntKind.wrap IntKind.i64
                                                                              (11 *
                                                                                Int.tmod
                                                                                  (IntKind.wrap IntKind.i64
                                                                                    (IntKind.wrap IntKind.i64
                                                                                        (IntKind.wrap IntKind.i64
                                                                                            (IntKind.wrap IntKind.i64 (IntKind.wrap IntKind.i64 (19 * Int.tmod y 19) + IntKind.wrap IntKind.i64 (Int.tdiv y 100)) -
                                                                                              IntKind.wrap IntKind.i64 (Int.tdiv (IntKind.wrap IntKind.i64 (Int.tdiv y 100)) 4)) -
                                                                                          IntKind.wrap IntKind.i64
                                                                                            (Int.tdiv
                                                                                              (IntKind.wrap IntKind.i64
                                                                                                (IntKind.wrap IntKind.i64
                                                                                                    (IntKind.wrap IntKind.i64 (Int.tdiv y 100) -
                                                                                                      IntKind.wrap IntKind.i64 (Int.tdiv (IntKind.wrap IntKind.i64 (IntKind.wrap IntKind.i64 (Int.tdiv y 100) + 8)) 25)) +
                                                                                                  1))
                                                                                              3)) +
                                                                                      15))
                                                                                  30)) +
                                                                        IntKind.wrap IntKind.i64
                                                                          (22 *
                                                                            Int.tmod
                                                                              (IntKind.wrap IntKind.i64
                                                                                (IntKind.wrap IntKind.i64
                                                                                    (IntKind.wrap IntKind.i64
                                                                                        (IntKind.wrap IntKind.i64 (32 + IntKind.wrap IntKind.i64 (2 * Int.tmod (IntKind.wrap IntKind.i64 (Int.tdiv y 100)) 4)) +
                                                                                          IntKind.wrap IntKind.i64 (2 * IntKind.wrap IntKind.i64 (Int.tdiv (Int.tmod y 100) 4))) -
                                                                                      Int.tmod
                                                                                        (IntKind.wrap IntKind.i64
                                                                                          (IntKind.wrap IntKind.i64
                                                                                              (IntKind.wrap IntKind.i64
                                                                                                  (IntKind.wrap IntKind.i64 (IntKind.wrap IntKind.i64 (19 * Int.tmod y 19) + IntKind.wrap IntKind.i64 (Int.tdiv y 100)) -
                                                                                                    IntKind.wrap IntKind.i64 (Int.tdiv (IntKind.wrap IntKind.i64 (Int.tdiv y 100)) 4)) -
                                                                                                IntKind.wrap IntKind.i64
                                                                                                  (Int.tdiv
                                                                                                    (IntKind.wrap IntKind.i64
                                                                                                      (IntKind.wrap IntKind.i64
                                                                                                          (IntKind.wrap IntKind.i64 (Int.tdiv y 100) -
                                                                                                            IntKind.wrap IntKind.i64 (Int.tdiv (IntKind.wrap IntKind.i64 (IntKind.wrap IntKind.i64 (Int.tdiv y 100) + 8)) 25)) +
                                                                                                        1))
                                                                                                    3)) +
                                                                                            15))
                                                                                        30) -
                                                                                  Int.tmod (Int.tmod y 100) 4))
                                                                              7)))
                                                                    451))) +
                                                        114))
                                                    31 +
                                                  1))]
                                          (AV.i IntKind.i64
                                            (dayM y
                                              (IntKind.wrap IntKind.i64
                                                (Int.tdiv
                                                  (IntKind.wrap IntKind.i64
                                                    (IntKind.wrap IntKind.i64
                                                        (IntKind.wrap IntKind.i64
                                                            (Int.tmod
                                                                (IntKind.wrap IntKind.i64
                                                                  (IntKind.wrap IntKind.i64
                                                                      (IntKind.wrap IntKind.i64
                                                                          (IntKind.wrap IntKind.i64 (IntKind.wrap IntKind.i64 (19 * Int.tmod y 19) + IntKind.wrap IntKind.i64 (Int.tdiv y 100)) -
                                                                            IntKind.wrap IntKind.i64 (Int.tdiv (IntKind.wrap IntKind.i64 (Int.tdiv y 100)) 4)) -
                                                                        IntKind.wrap IntKind.i64
                                                                          (Int.tdiv
                                                                            (IntKind.wrap IntKind.i64
                                                                              (IntKind.wrap IntKind.i64
                                                                                  (IntKind.wrap IntKind.i64 (Int.tdiv y 100) -
                                                                                    IntKind.wrap IntKind.i64 (Int.tdiv (IntKind.wrap IntKind.i64 (IntKind.wrap IntKind.i64 (Int.tdiv y 100) + 8)) 25)) +
                                                                                1))
                                                                            3)) +
                                                                    15))
                                                                30 +
                                                              Int.tmod
                                                                (IntKind.wrap IntKind.i64
                                                                  (IntKind.wrap IntKind.i64
                                                                      (IntKind.wrap IntKind.i64
                                                                          (IntKind.wrap IntKind.i64 (32 + IntKind.wrap IntKind.i64 (2 * Int.tmod (IntKind.wrap IntKind.i64 (Int.tdiv y 100)) 4)) +
                                                                            IntKind.wrap IntKind.i64 (2 * IntKind.wrap IntKind.i64 (Int.tdiv (Int.tmod y 100) 4))) -
                                                                        Int.tmod
                                                                          (IntKind.wrap IntKind.i64
                                                                            (IntKind.wrap IntKind.i64
                                                                                (IntKind.wrap IntKind.i64
                                                                                    (IntKind.wrap IntKind.i64 (IntKind.wrap IntKind.i64 (19 * Int.tmod y 19) + IntKind.wrap IntKind.i64 (Int.tdiv y 100)) -
                                                                                      IntKind.wrap IntKind.i64 (Int.tdiv (IntKind.wrap IntKind.i64 (Int.tdiv y 100)) 4)) -
                                                                                  IntKind.wrap IntKind.i64
                                                                                    (Int.tdiv
                                                                                      (IntKind.wrap IntKind.i64
                                                                                        (IntKind.wrap IntKind.i64
                                                                                            (IntKind.wrap IntKind.i64 (Int.tdiv y 100) -
                                                                                              IntKind.wrap IntKind.i64 (Int.tdiv (IntKind.wrap IntKind.i64 (IntKind.wrap IntKind.i64 (Int.tdiv y 100) + 8)) 25)) +
                                                                                          1))
                                                                                      3)) +
                                                                              15))
                                                                          30) -
                                                                    Int.tmod (Int.tmod y 100) 4))
                                                                7) -
                                                          IntKind.wrap IntKind.i64
                                                            (7 *
                                                              IntKind.wrap IntKind.i64
                                                                (Int.tdiv
                                                                  (IntKind.wrap IntKind.i64
                                                                    (IntKind.wrap IntKind.i64
                                                                        (Int.tmod y 19 +
                                                                          IntKind.wrap IntKind.i64
                                                                            (11 *
                                                                              Int.tmod
                                                                                (IntKind.wrap IntKind.i64
                                                                                  (IntKind.wrap IntKind.i64
                                                                                      (IntKind.wrap IntKind.i64
                                                                                          (IntKind.wrap IntKind.i64 (IntKind.wrap IntKind.i64 (19 * Int.tmod y 19) + IntKind.wrap IntKind.i64 (Int.tdiv y 100)) -
                                                                                            IntKind.wrap IntKind.i64 (Int.tdiv (IntKind.wrap IntKind.i64 (Int.tdiv y 100)) 4)) -
                                                                                        IntKind.wrap IntKind.i64
                                                                                          (Int.tdiv
                                                                                            (IntKind.wrap IntKind.i64
                                                                                              (IntKind.wrap IntKind.i64
                                                                                                  (IntKind.wrap IntKind.i64 (Int.tdiv y 100) -
                                                                                                    IntKind.wrap IntKind.i64 (Int.tdiv (IntKind.wrap IntKind.i64 (IntKind.wrap IntKind.i64 (Int.tdiv y 100) + 8)) 25)) +
                                                                                                1))
                                                                                            3)) +
                                                                                    15))
                                                                                30)) +
                                                                      IntKind.wrap IntKind.i64
                                                                        (22 *
                                                                          Int.tmod
                                                                            (IntKind.wrap IntKind.i64
                                                                              (IntKind.wrap IntKind.i64
                                                                                  (IntKind.wrap IntKind.i64
                                                                                      (IntKind.wrap IntKind.i64 (32 + IntKind.wrap IntKind.i64 (2 * Int.tmod (IntKind.wrap IntKind.i64 (Int.tdiv y 100)) 4)) +
                                                                                        IntKind.wrap IntKind.i64 (2 * IntKind.wrap IntKind.i64 (Int.tdiv (Int.tmod y 100) 4))) -
                                                                                    Int.tmod
                                                                                      (IntKind.wrap IntKind.i64
                                                                                        (IntKind.wrap IntKind.i64
                                                                                            (IntKind.wrap IntKind.i64
                                                                                                (IntKind.wrap IntKind.i64 (IntKind.wrap IntKind.i64 (19 * Int.tmod y 19) + IntKind.wrap IntKind.i64 (Int.tdiv y 100)) -
                                                                                                  IntKind.wrap IntKind.i64 (Int.tdiv (IntKind.wrap IntKind.i64 (Int.tdiv y 100)) 4)) -
                                                                                              IntKind.wrap IntKind.i64
                                                                                                (Int.tdiv
                                                                                                  (IntKind.wrap IntKind.i64
                                                                                                    (IntKind.wrap IntKind.i64
                                                                                                        (IntKind.wrap IntKind.i64 (Int.tdiv y 100) -
                                                                                                          IntKind.wrap IntKind.i64 (Int.tdiv (IntKind.wrap IntKind.i64 (IntKind.wrap IntKind.i64 (Int.tdiv y 100) + 8)) 25)) +
                                                                                                      1))
                                                                                                  3)) +
                                                                                          15))
                                                                                      30) -
                                                                                Int.tmod (Int.tmod y 100) 4))
                                                                            7)))
                                                                  451))) +
                                                      114))
                                                  31))
                                              (IntKind.wrap IntKind.i64
                                                (Int.tmod
                                                    (IntKind.wrap IntKind.i64
                                                      (IntKind.wrap IntKind.i64
                                                          (IntKind.wrap IntKind.i64
                                                              (Int.tmod
                                                                  (IntKind.wrap IntKind.i64
                                                                    (IntKind.wrap IntKind.i64
                                                                        (IntKind.wrap IntKind.i64
                                                                            (IntKind.wrap IntKind.i64 (IntKind.wrap IntKind.i64 (19 * Int.tmod y 19) + IntKind.wrap IntKind.i64 (Int.tdiv y 100)) -
                                                                              IntKind.wrap IntKind.i64 (Int.tdiv (IntKind.wrap IntKind.i64 (Int.tdiv y 100)) 4)) -
                                                                          IntKind.wrap IntKind.i64
                                                                            (Int.tdiv
                                                                              (IntKind.wrap IntKind.i64
                                                                                (IntKind.wrap IntKind.i64
                                                                                    (IntKind.wrap IntKind.i64 (Int.tdiv y 100) -
                                                                                      IntKind.wrap IntKind.i64 (Int.tdiv (IntKind.wrap IntKind.i64 (IntKind.wrap IntKind.i64 (Int.tdiv y 100) + 8)) 25)) +
                                                                                  1))
                                                                              3)) +
                                                                      15))
                                                                  30 +
                                                                Int.tmod
                                                                  (IntKind.wrap IntKind.i64
                                                                    (IntKind.wrap IntKind.i64
                                                                        (IntKind.wrap IntKind.i64
                                                                            (IntKind.wrap IntKind.i64 (32 + IntKind.wrap IntKind.i64 (2 * Int.tmod (IntKind.wrap IntKind.i64 (Int.tdiv y 100)) 4)) +
                                                                              IntKind.wrap IntKind.i64 (2 * IntKind.wrap IntKind.i64 (Int.tdiv (Int.tmod y 100) 4))) -
                                                                          Int.tmod
                                                                            (IntKind.wrap IntKind.i64
                                                                              (IntKind.wrap IntKind.i64
                                                                                  (IntKind.wrap IntKind.i64
                                                                                      (IntKind.wrap IntKind.i64 (IntKind.wrap IntKind.i64 (19 * Int.tmod y 19) + IntKind.wrap IntKind.i64 (Int.tdiv y 100)) -
                                                                                        IntKind.wrap IntKind.i64 (Int.tdiv (IntKind.wrap IntKind.i64 (Int.tdiv y 100)) 4)) -
                                                                                    IntKind.wrap IntKind.i64
                                                                                      (Int.tdiv
                                                                                        (IntKind.wrap IntKind.i64
                                                                                          (IntKind.wrap IntKind.i64
                                                                                              (IntKind.wrap IntKind.i64 (Int.tdiv y 100) -
                                                                                                IntKind.wrap IntKind.i64 (Int.tdiv (IntKind.wrap IntKind.i64 (IntKind.wrap IntKind.i64 (Int.tdiv y 100) + 8)) 25)) +
                                                                                            1))
                                                                                        3)) +
                                                                                15))
                                                                            30) -
                                                                      Int.tmod (Int.tmod y 100) 4))
                                                                  7) -
                                                            IntKind.wrap IntKind.i64
                                                              (7 *
                                                                IntKind.wrap IntKind.i64
                                                                  (Int.tdiv
                                                                    (IntKind.wrap IntKind.i64
                                                                      (IntKind.wrap IntKind.i64
                                                                          (Int.tmod y 19 +
                                                                            IntKind.wrap IntKind.i64
                                                                              (11 *
                                                                                Int.tmod
                                                                                  (IntKind.wrap IntKind.i64
                                                                                    (IntKind.wrap IntKind.i64
                                                                                        (IntKind.wrap IntKind.i64
                                                                                            (IntKind.wrap IntKind.i64 (IntKind.wrap IntKind.i64 (19 * Int.tmod y 19) + IntKind.wrap IntKind.i64 (Int.tdiv y 100)) -
                                                                                              IntKind.wrap IntKind.i64 (Int.tdiv (IntKind.wrap IntKind.i64 (Int.tdiv y 100)) 4)) -
                                                                                          IntKind.wrap IntKind.i64
                                                                                            (Int.tdiv
                                                                                              (IntKind.wrap IntKind.i64
                                                                                                (IntKind.wrap IntKind.i64
                                                                                                    (IntKind.wrap IntKind.i64 (Int.tdiv y 100) -
                                                                                                      IntKind.wrap IntKind.i64 (Int.tdiv (IntKind.wrap IntKind.i64 (IntKind.wrap IntKind.i64 (Int.tdiv y 100) + 8)) 25)) +
                                                                                                  1))
                                                                                              3)) +
                                                                                      15))
                                                                                  30)) +
                                                                        IntKind.wrap IntKind.i64
                                                                          (22 *
                                                                            Int.tmod
                                                                              (IntKind.wrap IntKind.i64
                                                                                (IntKind.wrap IntKind.i64
                                                                                    (IntKind.wrap IntKind.i64
                                                                                        (IntKind.wrap IntKind.i64 (32 + IntKind.wrap IntKind.i64 (2 * Int.tmod (IntKind.wrap IntKind.i64 (Int.tdiv y 100)) 4)) +
                                                                                          IntKind.wrap IntKind.i64 (2 * IntKind.wrap IntKind.i64 (Int.tdiv (Int.tmod y 100) 4))) -
                                                                                      Int.tmod
                                                                                        (IntKind.wrap IntKind.i64
                                                                                          (IntKind.wrap IntKind.i64
                                                                                              (IntKind.wrap IntKind.i64
                                                                                                  (IntKind.wrap IntKind.i64 (IntKind.wrap IntKind.i64 (19 * Int.tmod y 19) + IntKind.wrap IntKind.i64 (Int.tdiv y 100)) -
                                                                                                    IntKind.wrap IntKind.i64 (Int.tdiv (IntKind.wrap IntKind.i64 (Int.tdiv y 100)) 4)) -
                                                                                                IntKind.wrap IntKind.i64
                                                                                                  (Int.tdiv
                                                                                                    (IntKind.wrap IntKind.i64
                                                                                                      (IntKind.wrap IntKind.i64
                                                                                                          (IntKind.wrap IntKind.i64 (Int.tdiv y 100) -
                                                                                                            IntKind.wrap IntKind.i64 (Int.tdiv (IntKind.wrap IntKind.i64 (IntKind.wrap IntKind.i64 (Int.tdiv y 100) + 8)) 25)) +
                                                                                                        1))
                                                                                                    3)) +
                                                                                            15))
                                                                                        30) -
                                                                                  Int.tmod (Int.tmod y 100) 4))
                                                                              7)))
                                                                    451))) +
                                                        114))
                                                    31 +
                                                  1)))))
                                        (T.leaf
                                          (AV.tup
                                            [AV.i IntKind.i64
                                                (dayM y
                                                  (IntKind.wrap IntKind.i64
                                                    (Int.tdiv
                                                      (IntKind.wrap IntKind.i64
                                                        (IntKind.wrap IntKind.i64
                                                            (IntKind.wrap IntKind.i64
                                                                (Int.tmod
                                                                    (IntKind.wrap IntKind.i64
                                                                      (IntKind.wrap IntKind.i64
                                                                          (IntKind.wrap IntKind.i64
                                                                              (IntKind.wrap IntKind.i64 (IntKind.wrap IntKind.i64 (19 * Int.tmod y 19) + IntKind.wrap IntKind.i64 (Int.tdiv y 100)) -
                                                                                IntKind.wrap IntKind.i64 (Int.tdiv (IntKind.wrap IntKind.i64 (Int.tdiv y 100)) 4)) -
                                                                            IntKind.wrap IntKind.i64
                                                                              (Int.tdiv
                                                                                (IntKind.wrap IntKind.i64
                                                                                  (IntKind.wrap IntKind.i64
                                                                                      (IntKind.wrap IntKind.i64 (Int.tdiv y 100) -
                                                                                        IntKind.wrap IntKind.i64 (Int.tdiv (IntKind.wrap IntKind.i64 (IntKind.wrap IntKind.i64 (Int.tdiv y 100) + 8)) 25)) +
                                                                                    1))
                                                                                3)) +
                                                                        15))
                                                                    30 +
                                                                  Int.tmod
                                                                    (IntKind.wrap IntKind.i64
                                                                      (IntKind.wrap IntKind.i64
                                                                          (IntKind.wrap IntKind.i64
                                                                              (IntKind.wrap IntKind.i64 (32 + IntKind.wrap IntKind.i64 (2 * Int.tmod (IntKind.wrap IntKind.i64 (Int.tdiv y 100)) 4)) +
                                                                                IntKind.wrap IntKind.i64 (2 * IntKind.wrap IntKind.i64 (Int.tdiv (Int.tmod y 100) 4))) -
                                                                            Int.tmod
                                                                              (IntKind.wrap IntKind.i64
                                                                                (IntKind.wrap IntKind.i64
                                                                                    (IntKind.wrap IntKind.i64
                                                                                        (IntKind.wrap IntKind.i64 (IntKind.wrap IntKind.i64 (19 * Int.tmod y 19) + IntKind.wrap IntKind.i64 (Int.tdiv y 100)) -
                                                                                          IntKind.wrap IntKind.i64 (Int.tdiv (IntKind.wrap IntKind.i64 (Int.tdiv y 100)) 4)) -
                                                                                      IntKind.wrap IntKind.i64
                                                                                        (Int.tdiv
                                                                                          (IntKind.wrap IntKind.i64
                                                                                            (IntKind.wrap IntKind.i64
                                                                                                (IntKind.wrap IntKind.i64 (Int.tdiv y 100) -
                                                                                                  IntKind.wrap IntKind.i64 (Int.tdiv (IntKind.wrap IntKind.i64 (IntKind.wrap IntKind.i64 (Int.tdiv y 100) + 8)) 25)) +
                                                                                              1))
                                                                                          3)) +
                                                                                  15))
                                                                              30) -
                                                                        Int.tmod (Int.tmod y 100) 4))
                                                                    7) -
                                                              IntKind.wrap IntKind.i64
                                                                (7 *
                                                                  IntKind.wrap IntKind.i64
                                                                    (Int.tdiv
                                                                      (IntKind.wrap IntKind.i64
                                                                        (IntKind.wrap IntKind.i64
                                                                            (Int.tmod y 19 +
                                                                              IntKind.wrap IntKind.i64
                                                                                (11 *
                                                                                  Int.tmod
                                                                                    (IntKind.wrap IntKind.i64
                                                                                      (IntKind.wrap IntKind.i64
                                                                                          (IntKind.wrap IntKind.i64
                                                                                              (IntKind.wrap IntKind.i64 (IntKind.wrap IntKind.i64 (19 * Int.tmod y 19) + IntKind.wrap IntKind.i64 (Int.tdiv y 100)) -
                                                                                                IntKind.wrap IntKind.i64 (Int.tdiv (IntKind.wrap IntKind.i64 (Int.tdiv y 100)) 4)) -
                                                                                            IntKind.wrap IntKind.i64
                                                                                              (Int.tdiv
                                                                                                (IntKind.wrap IntKind.i64
                                                                                                  (IntKind.wrap IntKind.i64
                                                                                                      (IntKind.wrap IntKind.i64 (Int.tdiv y 100) -
                                                                                                        IntKind.wrap IntKind.i64 (Int.tdiv (IntKind.wrap IntKind.i64 (IntKind.wrap IntKind.i64 (Int.tdiv y 100) + 8)) 25)) +
                                                                                                    1))
                                                                                                3)) +
                                                                                        15))
                                                                                    30)) +
                                                                          IntKind.wrap IntKind.i64
                                                                            (22 *
                                                                              Int.tmod
                                                                                (IntKind.wrap IntKind.i64
                                                                                  (IntKind.wrap IntKind.i64
                                                                                      (IntKind.wrap IntKind.i64
                                                                                          (IntKind.wrap IntKind.i64 (32 + IntKind.wrap IntKind.i64 (2 * Int.tmod (IntKind.wrap IntKind.i64 (Int.tdiv y 100)) 4)) +
                                                                                            IntKind.wrap IntKind.i64 (2 * IntKind.wrap IntKind.i64 (Int.tdiv (Int.tmod y 100) 4))) -
                                                                                        Int.tmod
                                                                                          (IntKind.wrap IntKind.i64
                                                                                            (IntKind.wrap IntKind.i64
                                                                                                (IntKind.wrap IntKind.i64
                                                                                                    (IntKind.wrap IntKind.i64 (IntKind.wrap IntKind.i64 (19 * Int.tmod y 19) + IntKind.wrap IntKind.i64 (Int.tdiv y 100)) -
                                                                                                      IntKind.wrap IntKind.i64 (Int.tdiv (IntKind.wrap IntKind.i64 (Int.tdiv y 100)) 4)) -
                                                                                                  IntKind.wrap IntKind.i64
                                                                                                    (Int.tdiv
                                                                                                      (IntKind.wrap IntKind.i64
                                                                                                        (IntKind.wrap IntKind.i64
                                                                                                            (IntKind.wrap IntKind.i64 (Int.tdiv y 100) -
                                                                                                              IntKind.wrap IntKind.i64 (Int.tdiv (IntKind.wrap IntKind.i64 (IntKind.wrap IntKind.i64 (Int.tdiv y 100) + 8)) 25)) +
                                                                                                          1))
                                                                                                      3)) +
                                                                                              15))
                                                                                          30) -
                                                                                    Int.tmod (Int.tmod y 100) 4))
                                                                                7)))
                                                                      451))) +
                                                          114))
                                                      31))
                                                  (IntKind.wrap IntKind.i64
                                                    (Int.tmod
                                                        (IntKind.wrap IntKind.i64
                                                          (IntKind.wrap IntKind.i64
                                                              (IntKind.wrap IntKind.i64
                                                                  (Int.tmod
                                                                      (IntKind.wrap IntKind.i64
                                                                        (IntKind.wrap IntKind.i64
                                                                            (IntKind.wrap IntKind.i64
                                                                                (IntKind.wrap IntKind.i64 (IntKind.wrap IntKind.i64 (19 * Int.tmod y 19) + IntKind.wrap IntKind.i64 (Int.tdiv y 100)) -
                                                                                  IntKind.wrap IntKind.i64 (Int.tdiv (IntKind.wrap IntKind.i64 (Int.tdiv y 100)) 4)) -
                                                                              IntKind.wrap IntKind.i64
                                                                                (Int.tdiv
                                                                                  (IntKind.wrap IntKind.i64
                                                                                    (IntKind.wrap IntKind.i64
                                                                                        (IntKind.wrap IntKind.i64 (Int.tdiv y 100) -
                                                                                          IntKind.wrap IntKind.i64 (Int.tdiv (IntKind.wrap IntKind.i64 (IntKind.wrap IntKind.i64 (Int.tdiv y 100) + 8)) 25)) +
                                                                                      1))
                                                                                  3)) +
                                                                          15))
                                                                      30 +
                                                                    Int.tmod
                                                                      (IntKind.wrap IntKind.i64
                                                                        (IntKind.wrap IntKind.i64
                                                                            (IntKind.wrap IntKind.i64
                                                                                (IntKind.wrap IntKind.i64 (32 + IntKind.wrap IntKind.i64 (2 * Int.tmod (IntKind.wrap IntKind.i64 (Int.tdiv y 100)) 4)) +
                                                                                  IntKind.wrap IntKind.i64 (2 * IntKind.wrap IntKind.i64 (Int.tdiv (Int.tmod y 100) 4))) -
                                                                              Int.tmod
                                                                                (IntKind.wrap IntKind.i64
                                                                                  (IntKind.wrap IntKind.i64
                                                                                      (IntKind.wrap IntKind.i64
                                                                                          (IntKind.wrap IntKind.i64 (IntKind.wrap IntKind.i64 (19 * Int.tmod y 19) + IntKind.wrap IntKind.i64 (Int.tdiv y 100)) -
                                                                                            IntKind.wrap IntKind.i64 (Int.tdiv (IntKind.wrap IntKind.i64 (Int.tdiv y 100)) 4)) -
                                                                                        IntKind.wrap IntKind.i64
                                                                                          (Int.tdiv
                                                                                            (IntKind.wrap IntKind.i64
                                                                                              (IntKind.wrap IntKind.i64
                                                                                                  (IntKind.wrap IntKind.i64 (Int.tdiv y 100) -
                                                                                                    IntKind.wrap IntKind.i64 (Int.tdiv (IntKind.wrap IntKind.i64 (IntKind.wrap IntKind.i64 (Int.tdiv y 100) + 8)) 25)) +
                                                                                                1))
                                                                                            3)) +
                                                                                    15))
                                                                                30) -
                                                                          Int.tmod (Int.tmod y 100) 4))
                                                                      7) -
                                                                IntKind.wrap IntKind.i64
                                                                  (7 *
                                                                    IntKind.wrap IntKind.i64
                                                                      (Int.tdiv
                                                                        (IntKind.wrap IntKind.i64
                                                                          (IntKind.wrap IntKind.i64
                                                                              (Int.tmod y 19 +
                                                                                IntKind.wrap IntKind.i64
                                                                                  (11 *
                                                                                    Int.tmod
                                                                                      (IntKind.wrap IntKind.i64
                                                                                        (IntKind.wrap IntKind.i64
                                                                                            (IntKind.wrap IntKind.i64
                                                                                                (IntKind.wrap IntKind.i64 (IntKind.wrap IntKind.i64 (19 * Int.tmod y 19) + IntKind.wrap IntKind.i64 (Int.tdiv y 100)) -
                                                                                                  IntKind.wrap IntKind.i64 (Int.tdiv (IntKind.wrap IntKind.i64 (Int.tdiv y 100)) 4)) -
                                                                                              IntKind.wrap IntKind.i64
                                                                                                (Int.tdiv
                                                                                                  (IntKind.wrap IntKind.i64
                                                                                                    (IntKind.wrap IntKind.i64
                                                                                                        (IntKind.wrap IntKind.i64 (Int.tdiv y 100) -
                                                                                                          IntKind.wrap IntKind.i64 (Int.tdiv (IntKind.wrap IntKind.i64 (IntKind.wrap IntKind.i64 (Int.tdiv y 100) + 8)) 25)) +
                                                                                                      1))
                                                                                                  3)) +
                                                                                          15))
                                                                                      30)) +
                                                                            IntKind.wrap IntKind.i64
                                                                              (22 *
                                                                                Int.tmod
                                                                                  (IntKind.wrap IntKind.i64
                                                                                    (IntKind.wrap IntKind.i64
                                                                                        (IntKind.wrap IntKind.i64
                                                                                            (IntKind.wrap IntKind.i64 (32 + IntKind.wrap IntKind.i64 (2 * Int.tmod (IntKind.wrap IntKind.i64 (Int.tdiv y 100)) 4)) +
                                                                                              IntKind.wrap IntKind.i64 (2 * IntKind.wrap IntKind.i64 (Int.tdiv (Int.tmod y 100) 4))) -
                                                                                          Int.tmod
                                                                                            (IntKind.wrap IntKind.i64
                                                                                              (IntKind.wrap IntKind.i64
                                                                                                  (IntKind.wrap IntKind.i64
                                                                                                      (IntKind.wrap IntKind.i64 (IntKind.wrap IntKind.i64 (19 * Int.tmod y 19) + IntKind.wrap IntKind.i64 (Int.tdiv y 100)) -
                                                                                                        IntKind.wrap IntKind.i64 (Int.tdiv (IntKind.wrap IntKind.i64 (Int.tdiv y 100)) 4)) -
                                                                                                    IntKind.wrap IntKind.i64
                                                                                                      (Int.tdiv
                                                                                                        (IntKind.wrap IntKind.i64
                                                                                                          (IntKind.wrap IntKind.i64
                                                                                                              (IntKind.wrap IntKind.i64 (Int.tdiv y 100) -
                                                                                                                IntKind.wrap IntKind.i64
                                                                                                                  (Int.tdiv (IntKind.wrap IntKind.i64 (IntKind.wrap IntKind.i64 (Int.tdiv y 100) + 8)) 25)) +
                                                                                                            1))
                                                                                                        3)) +
                                                                                                15))
                                                                                            30) -
                                                                                      Int.tmod (Int.tmod y 100) 4))
                                                                                  7)))
                                                                        451))) +
                                                            114))
                                                        31 +
                                                      1))),
                                              AV.b true])))))))))))))))))))) :
    VCall P g_f [.i .i64 y] (.tup [.i .i64 (dayM y ((eaS y).tdiv 31) ((eaS y).tmod 31 + 1)), .b true]) := h_.call_of ps_impl_EasterOf ⟨oc_impl_EasterOf y, fun _ _ => none⟩ (by kernel_rfl) ht

-- END impl_EasterOf

def wiM (y m w c : Int) : Int := dayM y m 1 + (w - weekM (dayM y m 1) + 7).tmod 7 + 7 * (c - 1)
-- FN impl_WeekdayIn
/-- impl.WeekdayIn: slots 53, results [.t 8, .t 9]; calls [17:g_impl_LongOfMonth, 24:g_impl_within, 29:g_impl_within, 34:g_impl_dayOf, 38:g_impl_dayOfWeek]; names [(year, 0), (month, 1), (weekday, 2), (count, 3), (year, 4), (month, 5), (weekday, 6), (count, 7), (long, 10), (ok, 11), (first, 12), (day, 13)] -/
def ps_impl_WeekdayIn : List Nat := [0, 1, 2, 3, 8, 9, 10, 11, 12, 13, 31, 51]
def b_impl_WeekdayIn (g_impl_LongOfMonth g_impl_within g_impl_dayOf g_impl_dayOfWeek : FuncId) : VCode :=
  (.seq
   (.region false [
    ⟨some 8, .mv, [.k (.i .i64 0)], none⟩,
    ⟨some 9, .mv, [.k (.b false)], none⟩])
   (.seq
    (.region false [
     ⟨some 15, .mv, [.t 0], none⟩,
     ⟨some 16, .mv, [.t 1], none⟩,
     ⟨some 17, (.call g_impl_LongOfMonth), [.t 15, .t 16], none⟩,
     ⟨some 14, .mv, [.t 17], none⟩,
     ⟨some 18, (.extract 0), [.t 14], none⟩,
     ⟨some 19, (.extract 1), [.t 14], none⟩,
     ⟨some 10, .mv, [.t 18], none⟩,
     ⟨some 11, .mv, [.t 19], none⟩])
    (.seq
     (.seq
      (.region false [
       ⟨some 20, .mv, [.t 11], none⟩,
       ⟨some 21, .not, [.t 20], none⟩,
       ⟨some 22, .mv, [.t 21], none⟩,
       ⟨some 23, .mv, [.t 2], some (22, false)⟩,
       ⟨some 24, (.call g_impl_within), [.t 23, .k (.i .i64 0), .k (.i .i64 6)], some (22, false)⟩,
       ⟨some 25, .not, [.t 24], some (22, false)⟩,
       ⟨some 26, .pick, [.t 22, .k (.b true), .t 25], none⟩,
       ⟨some 27, .mv, [.t 26], none⟩,
       ⟨some 28, .mv, [.t 3], some (27, false)⟩,
       ⟨some 29, (.call g_impl_within), [.t 28, .k (.i .i64 1), .k (.i .i64 5)], some (27, false)⟩,
       ⟨some 30, .not, [.t 29], some (27, false)⟩,
       ⟨some 31, .pick, [.t 27, .k (.b true), .t 30], none⟩])
      (.cond (.t 31)
       (.seq
        (.region false [
         ⟨some 8, .mv, [.k (.i .i64 0)], none⟩,
         ⟨some 9, .mv, [.k (.b false)], none⟩])
        .ret)
       .skip))
     (.seq
      (.region false [
       ⟨some 32, .mv, [.t 0], none⟩,
       ⟨some 33, .mv, [.t 1], none⟩,
       ⟨some 34, (.call g_impl_dayOf), [.t 32, .t 33, .k (.i .i64 1)], none⟩,
       ⟨some 12, .mv, [.t 34], none⟩])
      (.seq
       (.region false [
        ⟨some 35, .mv, [.t 12], none⟩,
        ⟨some 36, .mv, [.t 2], none⟩,
        ⟨some 37, .mv, [.t 12], none⟩,
        ⟨some 38, (.call g_impl_dayOfWeek), [.t 37], none⟩,
        ⟨some 39, (.bin .sub), [.t 36, .t 38], none⟩,
        ⟨some 40, (.bin .add), [.t 39, .k (.i .i64 7)], none⟩,
        ⟨some 41, (.bin .rem), [.t 40, .k (.i .i64 7)], none⟩,
        ⟨some 42, (.bin .add), [.t 35, .t 41], none⟩,
        ⟨some 43, .mv, [.t 3], none⟩,
        ⟨some 44, (.bin .sub), [.t 43, .k (.i .i64 1)], none⟩,
        ⟨some 45, (.bin .mul), [.k (.i .i64 7), .t 44], none⟩,
        ⟨some 46, (.bin .add), [.t 42, .t 45], none⟩,
        ⟨some 13, .mv, [.t 46], none⟩])
       (.seq
        (.seq
         (.region false [
          ⟨some 47, .mv, [.t 13], none⟩,
          ⟨some 48, .mv, [.t 12], none⟩,
          ⟨some 49, .mv, [.t 10], none⟩,
          ⟨some 50, (.bin .add), [.t 48, .t 49], none⟩,
          ⟨some 51, (.bin .geq), [.t 47, .t 50], none⟩])
         (.cond (.t 51)
          (.seq
           (.region false [
            ⟨some 8, .mv, [.k (.i .i64 0)], none⟩,
            ⟨some 9, .mv, [.k (.b false)], none⟩])
           .ret)
          .skip))
        (.seq
         (.region false [
          ⟨some 52, .mv, [.t 13], none⟩,
          ⟨some 8, .mv, [.t 52], none⟩,
          ⟨some 9, .mv, [.k (.b true)], none⟩])
         .ret)))))))

abbrev Is_impl_WeekdayIn (P : Program) (g_f : FuncId) (g_impl_LongOfMonth g_impl_within g_impl_dayOf g_impl_dayOfWeek : FuncId) : Prop := FnIs P g_f 53 [.t 8, .t 9] (b_impl_WeekdayIn g_impl_LongOfMonth g_impl_within g_impl_dayOf g_impl_dayOfWeek)

abbrev C_impl_WeekdayIn (P : Program) (g_f : FuncId) : Prop := ∀ (y : Int) (m : Int) (w : Int) (c : Int) (hy : 1900 ≤ y ∧ y ≤ 2199) (hm : 1 ≤ m ∧ m ≤ 12) (hw : 0 ≤ w ∧ w ≤ 6) (hc : 1 ≤ c ∧ c ≤ 5) (hl : wiM y m w c < dayM y m 1 + moM y m), VCall P g_f [.i .i64 y, .i .i64 m, .i .i64 w, .i .i64 c] (.tup [.i .i64 (wiM y m w c), .b true])
def oc1_impl_WeekdayIn (as : List AV) : T AV := match as with | [.i .i64 y, .i .i64 m, .i .i64 w, .i .i64 c] => .leaf (.tup [.i .i64 (wiM y m w c), .b true]) | _ => .fail
def oc_impl_WeekdayIn (y : Int) (m : Int) (w : Int) (c : Int) (d : Nat) (as : List AV) : T AV := match d with | 17 => oc1_impl_LongOfMonth as | 24 => oc1_impl_within as | 29 => oc1_impl_within as | 34 => oc1_impl_dayOf as | 38 => oc1_impl_dayOfWeek as | _ => .fail



theorem q_impl_WeekdayIn {P : Program} {g_f : FuncId} {g_impl_LongOfMonth g_impl_within g_impl_dayOf g_impl_dayOfWeek : FuncId} (h_ : Is_impl_WeekdayIn P g_f g_impl_LongOfMonth g_impl_within g_impl_dayOf g_impl_dayOfWeek) (y : Int) (m : Int) (w : Int) (c : Int) (ht : T.ok (fun x_ => x_ = .tup [.i .i64 (wiM y m w c), .b true]) (
      T.ob ((VCall P) g_impl_LongOfMonth [AV.i IntKind.i64 y, AV.i IntKind.i64 m] (AV.tup [AV.i IntKind.i64 (moM y m), AV.b true]))
        (T.ite false (T.leaf (AV.tup [AV.i IntKind.i64 0, AV.b false]))
          (T.ob ((VCall P) g_impl_within [AV.i IntKind.i64 w, AV.i IntKind.i64 0, AV.i IntKind.i64 6] (AV.b (inM w 0 6)))
            (T.ite (!inM w 0 6) (T.leaf (AV.tup [AV.i IntKind.i64 0, AV.b false]))
              (T.ob ((VCall P) g_impl_within [AV.i IntKind.i64 c, AV.i IntKind.i64 1, AV.i IntKind.i64 5] (AV.b (inM c 1 5)))
                (T.ite (!inM c 1 5) (T.leaf (AV.tup [AV.i IntKind.i64 0, AV.b false]))
                  (T.ob ((VCall P) g_impl_dayOf [AV.i IntKind.i64 y, AV.i IntKind.i64 m, AV.i IntKind.i64 1] (AV.i IntKind.i64 (dayM y m 1)))
                    (T.ob ((VCall P) g_impl_dayOfWeek [AV.i IntKind.i64 (dayM y m 1)] (AV.i IntKind.i64 (weekM (dayM y m 1))))
                      (T.ob ((7 : Int) ≠ 0)
                        (T.ite
                          (decide
                            (IntKind.wrap IntKind.i64
                                (IntKind.wrap IntKind.i64 (dayM y m 1 + Int.tmod (IntKind.wrap IntKind.i64 (IntKind.wrap IntKind.i64 (w - weekM (dayM y m 1)) + 7)) 7) +
                                  IntKind.wrap IntKind.i64 (7 * IntKind.wrap IntKind.i64 (c - 1))) ≥
                              IntKind.wrap IntKind.i64 (dayM y m 1 + moM y m)))
                          (T.leaf (AV.tup [AV.i IntKind.i64 0, AV.b false]))
                          (T.leaf
                            (AV.tup
                              [AV.i IntKind.i64
                                  (IntKind.wrap IntKind.i64
                                    (IntKind.wrap IntKind.i64 (dayM y m 1 + Int.tmod (IntKind.wrap IntKind.i64 (IntKind.wrap IntKind.i64 (w - weekM (dayM y m 1)) + 7)) 7) +
                                      IntKind.wrap IntKind.i64 (7 * IntKind.wrap IntKind.i64 (c - 1)))),
                                AV.b true]))))))))))))) :
    VCall P g_f [.i .i64 y, .i .i64 m, .i .i64 w, .i .i64 c] (.tup [.i .i64 (wiM y m w c), .b true]) := h_.call_of ps_impl_WeekdayIn ⟨oc_impl_WeekdayIn y m w c, fun _ _ => none⟩ (by kernel_rfl) ht

-- END impl_WeekdayIn

theorem in_true {n a b : Int} (h : a ≤ n ∧ n ≤ b) : inM n a b = true := by simp [inM]; exact h
theorem k_laws_r8Long {P : Program} {f : FuncId} (h : Is_laws_r8Long P f) : C_laws_r8Long P f := by
  intro cs ms
  refine q_laws_r8Long h cs ms ?_
  repeat' (first | with_reducible refine T.ok_ob ?_ (fun _ => ?_) | with_reducible refine T.ok_ite (fun _ => ?_) (fun _ => ?_) | with_reducible refine T.ok_leaf ?_)
  all_goals first | with_reducible rfl | with_reducible assumption | contradiction | exact fconvOk_32_64 _ | assumption | exact rfl | (simp_all []; done) | (simp_all [T.ok]; omega)

theorem k_laws_r8At {P : Program} {f : FuncId} (h : Is_laws_r8At P f) : C_laws_r8At P f := by
  intro cs k n hk hc
  refine q_laws_r8At h cs k n ?_
  have hb := hc k.toNat
  unfold atM
  repeat' (first | with_reducible refine T.ok_ob ?_ (fun _ => ?_) | with_reducible refine T.ok_ite (fun _ => ?_) (fun _ => ?_) | with_reducible refine T.ok_leaf ?_)
  all_goals (try simp only [decide_eq_true_eq, decide_eq_false_iff_not, Bool.not_eq_true', Bool.not_eq_false', Bool.not_eq_eq_eq_not, Bool.not_true, Bool.not_false, Int.toNat_natCast, tab_len, List.length_append, List.length_singleton, List.length_cons, List.length_nil, List.length_drop, List.length_take, getD_drop', getD_nat, reduceCtorEq] at *)
  all_goals (try simp (disch := omega) only [wrap64_id] at *)
  all_goals first | omega | (exfalso; omega) | exact True.intro | skip
  all_goals first | (rw [if_pos (by omega)]; done) | (rw [if_neg (by omega)])
theorem k_impl_isYear {P : Program} {f g_impl_within : FuncId} (h : Is_impl_isYear P f g_impl_within) (c1 : C_impl_within P g_impl_within) : C_impl_isYear P f := by
  intro n
  refine q_impl_isYear h n ?_
  repeat' (first | with_reducible refine T.ok_ob ?_ (fun _ => ?_) | with_reducible refine T.ok_ite (fun _ => ?_) (fun _ => ?_) | with_reducible refine T.ok_leaf ?_)
  all_goals first | with_reducible rfl | with_reducible assumption | with_reducible exact c1 _ _ _ | contradiction | exact fconvOk_32_64 _ | assumption | exact rfl | (simp_all []; done) | (simp_all [T.ok]; omega)

theorem k_impl_isMonth {P : Program} {f g_impl_within : FuncId} (h : Is_impl_isMonth P f g_impl_within) (c1 : C_impl_within P g_impl_within) : C_impl_isMonth P f := by
  intro n
  refine q_impl_isMonth h n ?_
  repeat' (first | with_reducible refine T.ok_ob ?_ (fun _ => ?_) | with_reducible refine T.ok_ite (fun _ => ?_) (fun _ => ?_) | with_reducible refine T.ok_leaf ?_)
  all_goals first | with_reducible rfl | with_reducible assumption | with_reducible exact c1 _ _ _ | contradiction | exact fconvOk_32_64 _ | assumption | exact rfl | (simp_all []; done) | (simp_all [T.ok]; omega)

theorem k_impl_IsLeap {P : Program} {f g1 g2 : FuncId} (h : Is_impl_IsLeap P f g1 g2) (c1 : C_impl_isYear P g1) (c2 : C_impl_leaps P g2) : C_impl_IsLeap P f := by
  intro y hy
  exact q_impl_IsLeap h y ⟨c1 y, fun _ => ⟨fun _ => ⟨c2 y, fun _ => rfl⟩, fun h => absurd h (by rw [in_true hy]; decide)⟩⟩
theorem moB_le (m : Int) (hm : 1 ≤ m ∧ m ≤ 12) : 28 ≤ moB m ∧ moB m ≤ 31 ∧ moB m ≠ 29 ∧ (m = 2 → moB m = 28) := by
  have : m = 1 ∨ m = 2 ∨ m = 3 ∨ m = 4 ∨ m = 5 ∨ m = 6 ∨ m = 7 ∨ m = 8 ∨ m = 9 ∨ m = 10 ∨ m = 11 ∨ m = 12 := by omega
  rcases this with rfl | rfl | rfl | rfl | rfl | rfl | rfl | rfl | rfl | rfl | rfl | rfl <;> decide
theorem moM_le (y m : Int) (hm : 1 ≤ m ∧ m ≤ 12) : 28 ≤ moM y m ∧ moM y m ≤ 31 ∧ (moM y m = 29 ↔ m = 2 ∧ leapM y = true) := by
  obtain ⟨h1, h2, h3, h4⟩ := moB_le m hm
  unfold moM
  split
  · rename_i h; have := h4 h.1; refine ⟨by omega, by omega, ⟨fun _ => h, fun _ => by omega⟩⟩
  · rename_i h; exact ⟨h1, h2, ⟨fun e => absurd e h3, fun e => absurd e h⟩⟩
theorem k_impl_longOfMonth {P : Program} {f g : FuncId} (h : Is_impl_longOfMonth P f g) (c1 : C_impl_leaps P g) : C_impl_longOfMonth P f := by
  intro y m hm
  refine q_impl_longOfMonth h y m ?_
  have hw : IntKind.wrap .i64 (m - 1) = m - 1 := wrap64_id (by omega) (by omega)
  rw [hw]
  have hb := moB_le m hm
  unfold moB at hb
  have hl := c1 y
  refine ⟨by omega, fun _ => ⟨fun h1 => ⟨hl, fun _ => ⟨fun h2 => ?_, fun h2 => ?_⟩⟩, fun h1 => ?_⟩⟩
  · have h1 : m = 2 := by simpa using h1
    subst h1
    show AV.i _ _ = AV.i _ _
    simp only [moM, moB, h2, and_self, if_true]
    rfl
  · have h1 : m = 2 := by simpa using h1
    show AV.i _ _ = AV.i _ _
    simp only [moM, moB, h2, Bool.false_eq_true, and_false, if_false]
  · have h1 : m ≠ 2 := by simpa using h1
    show AV.i _ _ = AV.i _ _
    simp only [moM, moB, h1, false_and, if_false]
theorem k_impl_LongOfMonth {P : Program} {f g1 g2 g3 : FuncId} (h : Is_impl_LongOfMonth P f g1 g2 g3) (c1 : C_impl_isYear P g1) (c2 : C_impl_isMonth P g2) (c3 : C_impl_longOfMonth P g3) : C_impl_LongOfMonth P f := by
  intro y m hy hm
  refine q_impl_LongOfMonth h y m ⟨c1 y, fun _ => ⟨fun h => absurd h (by rw [in_true hy]; decide), fun _ => ⟨c2 m, fun _ => ⟨fun h => absurd h (by rw [in_true hm]; decide), fun _ => ⟨c3 y m hm, fun _ => rfl⟩⟩⟩⟩⟩
theorem year_step {y : Int} (hy : 1900 ≤ y ∧ y ≤ 2199) : yearM (y + 1) = yearM y + longM y := by
  unfold yearM
  rcases Int.lt_or_le y 2000 with h | h
  · obtain ⟨k, hk⟩ : ∃ k : Nat, (2000 - y).toNat = k + 1 := ⟨(1999 - y).toNat, by omega⟩
    rw [show (y + 1 - 2000).toNat = 0 by omega, show (y - 2000).toNat = 0 by omega, hk, show (2000 - (y + 1)).toNat = k by omega]
    have : (sumN (k + 1) fun i => longM (1999 - (i : Int))) = (sumN k fun i => longM (1999 - (i : Int))) + longM (1999 - k) := rfl
    rw [this, show (1999 : Int) - k = y by omega]
    omega
  · obtain ⟨k, hk⟩ : ∃ k : Nat, (y - 2000).toNat = k := ⟨_, rfl⟩
    rw [show (y + 1 - 2000).toNat = k + 1 by omega, hk, show (2000 - (y + 1)).toNat = 0 by omega, show (2000 - y).toNat = 0 by omega]
    have : (sumN (k + 1) fun i => longM (2000 + (i : Int))) = (sumN k fun i => longM (2000 + (i : Int))) + longM (2000 + k) := rfl
    rw [this, show (2000 : Int) + k = y by omega]
    omega
theorem longM_le (y : Int) : 365 ≤ longM y ∧ longM y ≤ 366 := by unfold longM; split <;> omega
/-- years come one behind the other -/
theorem year_far {y : Int} (hy : 1900 ≤ y) : ∀ j : Nat, y + j ≤ 2200 → yearM y + 365 * j ≤ yearM (y + j) ∧ yearM (y + j) ≤ yearM y + 366 * j
  | 0, _ => by simp
  | j + 1, h => by
    obtain ⟨h1, h2⟩ := year_far hy j (by omega)
    have := year_step (y := y + j) (by omega)
    have := longM_le (y + j)
    rw [show y + ((j + 1 : Nat) : Int) = y + j + 1 by omega]
    omega
theorem year_far' {y z : Int} (hy : 1900 ≤ y) (hz : z ≤ 2200) (h : y ≤ z) : yearM y + 365 * (z - y) ≤ yearM z ∧ yearM z ≤ yearM y + 366 * (z - y) := by
  have := year_far hy (z - y).toNat (by omega)
  rw [show y + ((z - y).toNat : Int) = z by omega, show ((z - y).toNat : Int) = z - y by omega] at this
  exact this
theorem year_1900 : yearM 1900 = -36524 := by decide +kernel
theorem year_2200 : yearM 2200 = 73049 := by decide +kernel
theorem year_2000 : yearM 2000 = 0 := by decide +kernel
theorem yo_spec {n : Int} (hn : -36524 ≤ n ∧ n ≤ 73048) : 1900 ≤ yoM n ∧ yoM n ≤ 2199 ∧ yearM (yoM n) ≤ n ∧ n < yearM (yoM n + 1) := by
  have hl : yoK n ≤ 299 := by
    have := List.findIdx_le_length (p := fun (k : Nat) => decide (n < yearM (1901 + (k : Int)))) (xs := List.range 299)
    simpa [yoK] using this
  have h1 : ∀ k, k < yoK n → yearM (1901 + (k : Int)) ≤ n := by
    intro k hk
    have := findIdx_not (p := fun (k : Nat) => decide (n < yearM (1901 + (k : Int)))) (xs := List.range 299) 0 hk (by simp; omega)
    rw [range_getD _ _ (by omega)] at this
    have := of_decide_eq_false this
    omega
  unfold yoM
  refine ⟨by omega, by omega, ?_, ?_⟩
  · rcases Nat.eq_zero_or_pos (yoK n) with h | h
    · rw [h]; simp [year_1900]; omega
    · have := h1 (yoK n - 1) (by omega)
      rw [show (1900 : Int) + yoK n = 1901 + (yoK n - 1 : Nat) by omega]
      exact this
  · rcases Nat.lt_or_ge (yoK n) 299 with h | h
    · have := findIdx_is (p := fun (k : Nat) => decide (n < yearM (1901 + (k : Int)))) (xs := List.range 299) 0 (by simpa [yoK] using h)
      have e : (List.range 299).findIdx (fun (k : Nat) => decide (n < yearM (1901 + (k : Int)))) = yoK n := rfl
      rw [e, range_getD _ _ h] at this
      have := of_decide_eq_true this
      rw [show (1900 : Int) + yoK n + 1 = 1901 + yoK n by omega]
      exact this
    · rw [show yoK n = 299 by omega]
      show n < yearM 2200
      rw [year_2200]; omega
/-- the year of a day is what it is between -/
theorem yo_le {n y : Int} (hn : -36524 ≤ n ∧ n ≤ 73048) (hy : 1900 ≤ y ∧ y ≤ 2200) : yearM y ≤ n ↔ y ≤ yoM n := by
  obtain ⟨h1, h2, h3, h4⟩ := yo_spec hn
  constructor
  · intro h
    rcases Int.lt_or_le (yoM n) y with h5 | h5
    · have := year_far' (y := yoM n + 1) (z := y) (by omega) (by omega) (by omega)
      omega
    · exact h5
  · intro h
    have := year_far' (y := y) (z := yoM n) (by omega) (by omega) h
    omega
theorem yo_is {n y : Int} (hn : -36524 ≤ n ∧ n ≤ 73048) (hy : 1900 ≤ y ∧ y ≤ 2199) (h1 : yearM y ≤ n) (h2 : n < yearM (y + 1)) : yoM n = y := by
  have h3 := (yo_le hn (y := y) (by omega)).1 h1
  have h4 := mt (yo_le hn (y := y + 1) (by omega)).2 (by omega)
  omega
theorem cum_eq (y : Int) (k : Nat) (hk : k ≤ 12) : cumM y k = [0, 31, 59, 90, 120, 151, 181, 212, 243, 273, 304, 334, 365].getD k 0 + (if 2 ≤ k ∧ leapM y = true then 1 else 0) := by
  have : k = 0 ∨ k = 1 ∨ k = 2 ∨ k = 3 ∨ k = 4 ∨ k = 5 ∨ k = 6 ∨ k = 7 ∨ k = 8 ∨ k = 9 ∨ k = 10 ∨ k = 11 ∨ k = 12 := by omega
  rcases this with rfl | rfl | rfl | rfl | rfl | rfl | rfl | rfl | rfl | rfl | rfl | rfl | rfl <;> cases hl : leapM y <;> simp [cumM, sumN, moM, moB, hl]
theorem cum_next (y : Int) (k : Nat) : cumM y (k + 1) = cumM y k + moM y (1 + k) := rfl
theorem cum_12 (y : Int) : cumM y 12 = longM y := by
  rw [cum_eq y 12 (by omega)]; unfold longM; cases leapM y <;> simp
theorem cum_bound (y : Int) (k : Nat) (hk : k ≤ 12) : 0 ≤ cumM y k ∧ cumM y k ≤ 31 * k := by
  induction k with
  | zero => simp [cumM, sumN]
  | succ k ih =>
    have := ih (by omega)
    have := moM_le y (1 + k) (by omega)
    rw [cum_next]; omega
theorem year_bound {y : Int} (hy : 1900 ≤ y ∧ y ≤ 2200) : -36524 ≤ yearM y ∧ yearM y ≤ 73049 := by
  have h1 := year_far' (y := 1900) (z := y) (by omega) (by omega) (by omega)
  have h2 := year_far' (y := y) (z := 2200) (by omega) (by omega) (by omega)
  rw [year_1900] at h1
  rw [year_2200] at h2
  omega
theorem k_impl_dayOf {P : Program} {f g1 g2 : FuncId} (h : Is_impl_dayOf P f g1 g2) (c1 : C_impl_newYear P g1) (c2 : C_impl_longOfMonth P g2) : C_impl_dayOf P f := by
  intro y m d hy hm hd
  have hb := year_bound (y := y) (by omega)
  refine q_impl_dayOf h y m d ⟨c1 y (by omega), fun _ => ⟨?_, fun _ => rfl⟩⟩
  rw [wrap64_id (n := yearM y + d) (by omega) (by omega), wrap64_id (by omega) (by omega)]
  refine for_up (e := .exit 0) (m - 1).toNat (fun i => h_impl_dayOf_L0 y m d (yearM y + d - 1 + cumM y i) (1 + i)) (by simp [cumM, sumN]) (fun i hi => ?_) ?_
  · refine q_impl_dayOf_L0 _ _ _ _ _ ?_
    have h1 := cum_bound y i (by omega)
    have h2 := moM_le y (1 + i) (by omega)
    have h3 := cum_next y i
    have a := c2 y (1 + i) (by omega)
    rw [h3]
    repeat' (first | with_reducible refine T.ok_ob ?_ (fun _ => ?_) | with_reducible refine T.ok_ite (fun _ => ?_) (fun _ => ?_) | with_reducible refine T.ok_leaf ?_)
    all_goals (try simp only [decide_eq_true_eq, decide_eq_false_iff_not, Bool.not_eq_true', Bool.not_eq_false', Bool.not_eq_eq_eq_not, Bool.not_true, Bool.not_false, Int.toNat_natCast, tab_len, List.length_append, List.length_singleton, List.length_cons, List.length_nil, List.length_drop, List.length_take, getD_drop', getD_nat, reduceCtorEq] at *)
    all_goals (try simp (disch := omega) only [wrap64_id] at *)
    all_goals first | omega | (exfalso; omega) | exact True.intro | skip
    all_goals first | exact a | (rw [show (1 : Int) + i + 1 = 1 + (i + 1 : Nat) by omega, Int.add_assoc])
  · refine q_impl_dayOf_L0 _ _ _ _ _ ?_
    have e : (1 : Int) + (m - 1).toNat = m := by omega
    rw [e]
    repeat' (first | with_reducible refine T.ok_ob ?_ (fun _ => ?_) | with_reducible refine T.ok_ite (fun _ => ?_) (fun _ => ?_) | with_reducible refine T.ok_leaf ?_)
    all_goals (try simp only [decide_eq_true_eq, decide_eq_false_iff_not, Bool.not_eq_true', Bool.not_eq_false', Bool.not_eq_eq_eq_not, Bool.not_true, Bool.not_false, Int.toNat_natCast, tab_len, List.length_append, List.length_singleton, List.length_cons, List.length_nil, List.length_drop, List.length_take, getD_drop', getD_nat, reduceCtorEq] at *)
    all_goals (try simp (disch := omega) only [wrap64_id] at *)
    all_goals first | omega | (exfalso; omega) | exact True.intro | skip
    all_goals rfl
theorem k_impl_DayOf {P : Program} {f g1 g2 g3 : FuncId} (h : Is_impl_DayOf P f g1 g2 g3) (c1 : C_impl_LongOfMonth P g1) (c2 : C_impl_within P g2) (c3 : C_impl_dayOf P g3) : C_impl_DayOf P f := by
  intro y m d hy hm hd
  have := moM_le y m hm
  refine q_impl_DayOf h y m d ⟨c1 y m hy hm, fun _ => ⟨fun h => Bool.noConfusion h, fun _ => ⟨c2 _ _ _, fun _ => ⟨fun h => absurd h (by rw [in_true hd]; decide), fun _ => ⟨c3 y m d hy hm (by omega), fun _ => rfl⟩⟩⟩⟩⟩
theorem k_impl_yearOf {P : Program} {f g : FuncId} (h : Is_impl_yearOf P f g) (c1 : C_impl_newYear P g) : C_impl_yearOf P f := by
  intro n hn
  obtain ⟨s1, s2, s3, s4⟩ := yo_spec hn
  have q : -99 ≤ n.tdiv 366 ∧ n.tdiv 366 ≤ 199 := by
    rcases Int.lt_or_le n 0 with h | h
    · have h0 : n.tdiv 366 = -((-n) / 366) := by rw [← Int.tdiv_eq_ediv_of_nonneg (by omega), Int.neg_tdiv, Int.neg_neg]
      omega
    · rw [Int.tdiv_eq_ediv_of_nonneg h]; omega
  have e1 : IntKind.wrap .i64 (2000 + IntKind.wrap .i64 (n.tdiv 366)) = 2000 + n.tdiv 366 := by rw [wrap64_id (n := n.tdiv 366) (by omega) (by omega), wrap64_id (by omega) (by omega)]
  refine q_impl_yearOf h n ⟨by omega, fun _ => ⟨?_, fun _ => ⟨?_, fun _ => rfl⟩⟩⟩
  · rw [e1]
    refine for_up (e := .exit 0) (2000 + n.tdiv 366 - yaM n).toNat (fun i => h_impl_yearOf_L0 n (2000 + n.tdiv 366 - i)) (by simp) (fun i hi => ?_) ?_
    · have hy : yoM n < 2000 + n.tdiv 366 - i ∧ 1900 ≤ 2000 + n.tdiv 366 - i := by unfold yaM at hi; split at hi <;> omega
      refine q_impl_yearOf_L0 _ _ ?_
      have a := c1 (2000 + n.tdiv 366 - i) (by omega)
      have hgt := mt (yo_le hn (y := 2000 + n.tdiv 366 - i) (by omega)).1 (by omega)
      generalize yearM (2000 + n.tdiv 366 - i) = Y at *
      repeat' (first | with_reducible refine T.ok_ob ?_ (fun _ => ?_) | with_reducible refine T.ok_ite (fun _ => ?_) (fun _ => ?_) | with_reducible refine T.ok_leaf ?_)
      all_goals (try simp only [decide_eq_true_eq, decide_eq_false_iff_not, Bool.not_eq_true', Bool.not_eq_false', Bool.not_eq_eq_eq_not, Bool.not_true, Bool.not_false, Int.toNat_natCast, tab_len, List.length_append, List.length_singleton, List.length_cons, List.length_nil, List.length_drop, List.length_take, getD_drop', getD_nat, reduceCtorEq] at *)
      all_goals (try simp (disch := omega) only [wrap64_id] at *)
      all_goals first | omega | (exfalso; omega) | exact True.intro | skip
      all_goals first | exact a | (rw [show 2000 + n.tdiv 366 - (i : Int) - 1 = 2000 + n.tdiv 366 - (i + 1 : Nat) by omega])
    · have hy : yaM n ≤ yoM n ∧ 1900 ≤ yaM n ∧ yaM n ≤ 2000 + n.tdiv 366 := by unfold yaM; split <;> omega
      have e : 2000 + n.tdiv 366 - ((2000 + n.tdiv 366 - yaM n).toNat : Int) = yaM n := by omega
      rw [e]
      refine q_impl_yearOf_L0 _ _ ?_
      have a := c1 (yaM n) (by omega)
      have hle := (yo_le hn (y := yaM n) (by omega)).2 hy.1
      generalize yearM (yaM n) = Y at *
      repeat' (first | with_reducible refine T.ok_ob ?_ (fun _ => ?_) | with_reducible refine T.ok_ite (fun _ => ?_) (fun _ => ?_) | with_reducible refine T.ok_leaf ?_)
      all_goals (try simp only [decide_eq_true_eq, decide_eq_false_iff_not, Bool.not_eq_true', Bool.not_eq_false', Bool.not_eq_eq_eq_not, Bool.not_true, Bool.not_false, Int.toNat_natCast, tab_len, List.length_append, List.length_singleton, List.length_cons, List.length_nil, List.length_drop, List.length_take, getD_drop', getD_nat, reduceCtorEq] at *)
      all_goals (try simp (disch := omega) only [wrap64_id] at *)
      all_goals first | omega | (exfalso; omega) | exact True.intro | skip
      all_goals first | exact a | rfl
  · have hy : yaM n ≤ yoM n ∧ 1900 ≤ yaM n := by unfold yaM; split <;> omega
    refine for_up (e := .exit 2) (yoM n - yaM n).toNat (fun i => h_impl_yearOf_L2 n (yaM n + i)) (by simp; rfl) (fun i hi => ?_) ?_
    · refine q_impl_yearOf_L2 _ _ ?_
      rw [wrap64_id (n := yaM n + i + 1) (by omega) (by omega)]
      have a := c1 (yaM n + i + 1) (by omega)
      have hle := (yo_le hn (y := yaM n + i + 1) (by omega)).2 (by omega)
      generalize yearM (yaM n + i + 1) = Y at *
      repeat' (first | with_reducible refine T.ok_ob ?_ (fun _ => ?_) | with_reducible refine T.ok_ite (fun _ => ?_) (fun _ => ?_) | with_reducible refine T.ok_leaf ?_)
      all_goals (try simp only [decide_eq_true_eq, decide_eq_false_iff_not, Bool.not_eq_true', Bool.not_eq_false', Bool.not_eq_eq_eq_not, Bool.not_true, Bool.not_false, Int.toNat_natCast, tab_len, List.length_append, List.length_singleton, List.length_cons, List.length_nil, List.length_drop, List.length_take, getD_drop', getD_nat, reduceCtorEq] at *)
      all_goals (try simp (disch := omega) only [wrap64_id] at *)
      all_goals first | omega | (exfalso; omega) | exact True.intro | skip
      all_goals first | exact a | (rw [show yaM n + (i : Int) + 1 = yaM n + (i + 1 : Nat) by omega]; rfl)
    · refine q_impl_yearOf_L2 _ _ ?_
      have e : yaM n + ((yoM n - yaM n).toNat : Int) = yoM n := by omega
      rw [e, wrap64_id (n := yoM n + 1) (by omega) (by omega)]
      have a := c1 (yoM n + 1) (by omega)
      generalize yearM (yoM n + 1) = Y at *
      repeat' (first | with_reducible refine T.ok_ob ?_ (fun _ => ?_) | with_reducible refine T.ok_ite (fun _ => ?_) (fun _ => ?_) | with_reducible refine T.ok_leaf ?_)
      all_goals (try simp only [decide_eq_true_eq, decide_eq_false_iff_not, Bool.not_eq_true', Bool.not_eq_false', Bool.not_eq_eq_eq_not, Bool.not_true, Bool.not_false, Int.toNat_natCast, tab_len, List.length_append, List.length_singleton, List.length_cons, List.length_nil, List.length_drop, List.length_take, getD_drop', getD_nat, reduceCtorEq] at *)
      all_goals (try simp (disch := omega) only [wrap64_id] at *)
      all_goals first | omega | (exfalso; omega) | exact True.intro | skip
      all_goals first | exact a | rfl
/-- what is told of the month -/
theorem mf_spec {y d : Int} (hd : 1 ≤ d ∧ d ≤ longM y) : mfM y d ≤ 11 ∧ (∀ k, k < mfM y d → cumM y (k + 1) < d) ∧ d ≤ cumM y (mfM y d + 1) ∧ 1 ≤ d - cumM y (mfM y d) := by
  have hl : mfM y d ≤ 11 := by
    have := List.findIdx_le_length (p := fun (k : Nat) => decide (d ≤ cumM y (k + 1))) (xs := List.range 11)
    simpa [mfM] using this
  have h1 : ∀ k, k < mfM y d → cumM y (k + 1) < d := by
    intro k hk
    have := findIdx_not (p := fun (k : Nat) => decide (d ≤ cumM y (k + 1))) (xs := List.range 11) 0 hk (by simp; omega)
    rw [range_getD _ _ (by omega)] at this
    have := of_decide_eq_false this
    omega
  refine ⟨hl, h1, ?_, ?_⟩
  · rcases Nat.lt_or_ge (mfM y d) 11 with h | h
    · have := findIdx_is (p := fun (k : Nat) => decide (d ≤ cumM y (k + 1))) (xs := List.range 11) 0 (by simpa [mfM] using h)
      have e : (List.range 11).findIdx (fun (k : Nat) => decide (d ≤ cumM y (k + 1))) = mfM y d := rfl
      rw [e, range_getD _ _ h] at this
      exact of_decide_eq_true this
    · rw [show mfM y d = 11 by omega, cum_12]; exact hd.2
  · rcases Nat.eq_zero_or_pos (mfM y d) with h | h
    · rw [h]; simp [cumM, sumN]; omega
    · have := h1 (mfM y d - 1) (by omega)
      rw [show mfM y d - 1 + 1 = mfM y d by omega] at this
      omega
theorem k_impl_DateOf {P : Program} {f g1 g2 g3 g4 : FuncId} (h : Is_impl_DateOf P f g1 g2 g3 g4) (c1 : C_impl_isDay P g1) (c2 : C_impl_yearOf P g2) (c3 : C_impl_newYear P g3) (c4 : C_impl_longOfMonth P g4) : C_impl_DateOf P f := by
  intro n hn
  obtain ⟨s1, s2, s3, s4⟩ := yo_spec hn
  have hs := year_step (y := yoM n) (by omega)
  have hl := longM_le (yoM n)
  obtain ⟨m1, m2, m3, m4⟩ := mf_spec (y := yoM n) (d := n - yearM (yoM n) + 1) (by omega)
  refine q_impl_DateOf h n ⟨c1 n, fun _ => ⟨fun h => absurd h (by rw [show isDayM n = true from in_true hn]; decide), fun _ => ⟨c2 n hn, fun _ => ⟨c3 _ (by omega), fun _ => ⟨?_, fun _ => rfl⟩⟩⟩⟩⟩
  have hb := year_bound (y := yoM n) (by omega)
  rw [wrap64_id (n := n - yearM (yoM n)) (by omega) (by omega), wrap64_id (by omega) (by omega)]
  generalize hD : n - yearM (yoM n) + 1 = D at *
  refine for_up (e := .exit 0) (mfM (yoM n) D) (fun i => h_impl_DateOf_L0 n (1 + i) (D - cumM (yoM n) i)) (by simp [cumM, sumN]) (fun i hi => ?_) ?_
  · refine q_impl_DateOf_L0 _ _ _ ?_
    have h1 := cum_bound (yoM n) i (by omega)
    have h2 := moM_le (yoM n) (1 + i) (by omega)
    have h3 := cum_next (yoM n) i
    have h4 := m2 i hi
    have a := c4 (yoM n) (1 + i) (by omega)
    rw [h3] at h4 ⊢
    repeat' (first | with_reducible refine T.ok_ob ?_ (fun _ => ?_) | with_reducible refine T.ok_ite (fun _ => ?_) (fun _ => ?_) | with_reducible refine T.ok_leaf ?_)
    all_goals (try simp only [decide_eq_true_eq, decide_eq_false_iff_not, Bool.not_eq_true', Bool.not_eq_false', Bool.not_eq_eq_eq_not, Bool.not_true, Bool.not_false, Int.toNat_natCast, tab_len, List.length_append, List.length_singleton, List.length_cons, List.length_nil, List.length_drop, List.length_take, getD_drop', getD_nat, reduceCtorEq] at *)
    all_goals (try simp (disch := omega) only [wrap64_id] at *)
    all_goals first | omega | (exfalso; omega) | exact True.intro | skip
    all_goals first | exact a | (rw [show (1 : Int) + i + 1 = 1 + (i + 1 : Nat) by omega, Int.sub_sub])
  · refine q_impl_DateOf_L0 _ _ _ ?_
    have h3 := cum_next (yoM n) (mfM (yoM n) D)
    have a := c4 (yoM n) (1 + (mfM (yoM n) D : Nat)) (by omega)
    repeat' (first | with_reducible refine T.ok_ob ?_ (fun _ => ?_) | with_reducible refine T.ok_ite (fun _ => ?_) (fun _ => ?_) | with_reducible refine T.ok_leaf ?_)
    all_goals (try simp only [decide_eq_true_eq, decide_eq_false_iff_not, Bool.not_eq_true', Bool.not_eq_false', Bool.not_eq_eq_eq_not, Bool.not_true, Bool.not_false, Int.toNat_natCast, tab_len, List.length_append, List.length_singleton, List.length_cons, List.length_nil, List.length_drop, List.length_take, getD_drop', getD_nat, reduceCtorEq] at *)
    all_goals (try simp (disch := omega) only [wrap64_id] at *)
    all_goals first | omega | (exfalso; omega) | exact True.intro | skip
    all_goals first | exact a | rfl
theorem k_impl_WeekdayOf {P : Program} {f g1 g2 : FuncId} (h : Is_impl_WeekdayOf P f g1 g2) (c1 : C_impl_isDay P g1) (c2 : C_impl_dayOfWeek P g2) : C_impl_WeekdayOf P f := by
  intro n hn
  exact q_impl_WeekdayOf h n ⟨c1 n, fun _ => ⟨fun h => absurd h (by rw [show isDayM n = true from in_true hn]; decide), fun _ => ⟨c2 n (by omega), fun _ => rfl⟩⟩⟩
theorem week_le (n : Int) : 0 ≤ weekM n ∧ weekM n ≤ 6 := by rw [week_eq]; omega
theorem k_impl_WeekOf {P : Program} {f g1 g2 g3 g4 : FuncId} (h : Is_impl_WeekOf P f g1 g2 g3 g4) (c1 : C_impl_isDay P g1) (c2 : C_impl_dayOfWeek P g2) (c3 : C_impl_yearOf P g3) (c4 : C_impl_newYear P g4) : C_impl_WeekOf P f := by
  intro n hn
  have hw := week_le n
  have e : IntKind.wrap .i64 (IntKind.wrap .i64 (n - weekM n) + 3) = thuM n := by rw [wrap64_id (n := n - weekM n) (by omega) (by omega)]; exact wrap64_id (by omega) (by omega)
  have ht : -36524 ≤ thuM n ∧ thuM n ≤ 73048 := by unfold thuM; omega
  obtain ⟨s1, s2, s3, s4⟩ := yo_spec ht
  have hs := year_step (y := yoM (thuM n)) (by omega)
  have hl := longM_le (yoM (thuM n))
  have hb := year_bound (y := yoM (thuM n)) (by omega)
  refine q_impl_WeekOf h n ?_
  rw [e]
  refine ⟨c1 n, fun _ => ⟨fun h => absurd h (by rw [show isDayM n = true from in_true (by omega)]; decide), fun _ => ⟨c2 n (by omega), fun _ => ⟨c1 _, fun _ => ⟨fun h => absurd h (by rw [show isDayM (thuM n) = true from in_true ht]; decide), fun _ => ⟨c3 _ ht, fun _ => ⟨c4 _ (by omega), fun _ => ⟨by omega, fun _ => ?_⟩⟩⟩⟩⟩⟩⟩⟩
  show AV.tup _ = AV.tup _
  have h7 : 0 ≤ thuM n - yearM (yoM (thuM n)) ∧ thuM n - yearM (yoM (thuM n)) ≤ 366 := by omega
  generalize thuM n - yearM (yoM (thuM n)) = D at *
  have hd : 0 ≤ D.tdiv 7 ∧ D.tdiv 7 ≤ 53 := by rw [Int.tdiv_eq_ediv_of_nonneg h7.1]; omega
  rw [wrap64_id (n := D) (by omega) (by omega), wrap64_id (n := D.tdiv 7) (by omega) (by omega), wrap64_id (by omega) (by omega)]
theorem all_years {p : Int → Prop} (h : ∀ k : Nat, k < 300 → p (1900 + (k : Int))) : ∀ y, 1900 ≤ y ∧ y ≤ 2199 → p y := by
  intro y hy
  have := h (y - 1900).toNat (by omega)
  rwa [show (1900 : Int) + ((y - 1900).toNat : Nat) = y by omega] at this
theorem tup_day {y A B A' B' : Int} (h1 : A = A') (h2 : B = B') : AV.tup [.i .i64 (dayM y A B), .b true] = AV.tup [.i .i64 (dayM y A' B'), .b true] := by rw [h1, h2]
theorem k_impl_EasterOf {P : Program} {f g1 g2 : FuncId} (h : Is_impl_EasterOf P f g1 g2) (c1 : C_impl_isYear P g1) (c2 : C_impl_dayOf P g2) : C_impl_EasterOf P f := by
  intro y hy
  refine q_impl_EasterOf h y ⟨c1 y, fun z1 => ⟨fun h => absurd h (by rw [in_true hy]; decide), fun z2 => ?_⟩⟩
  refine ⟨by omega, fun z3 => ⟨by omega, fun z4 => ⟨by omega, fun z5 => ⟨by omega, fun z6 => ⟨by omega, fun z7 => ⟨by omega, fun z8 => ⟨by omega, fun z9 => ⟨by omega, fun z10 => ⟨by omega, fun z11 => ⟨by omega, fun z12 => ⟨by omega, fun z13 => ⟨by omega, fun z14 => ⟨by omega, fun z15 => ⟨by omega, fun z16 => ⟨c2 _ _ _ hy ?_ ?_, fun z17 => tup_day ?_ ?_⟩⟩⟩⟩⟩⟩⟩⟩⟩⟩⟩⟩⟩⟩⟩
  all_goals ((try clear z17); (try clear z16); (try clear z15); (try clear z14); (try clear z13); (try clear z12); (try clear z11); (try clear z10); (try clear z9); (try clear z8); (try clear z7); (try clear z6); (try clear z5); (try clear z4); (try clear z3); (try clear z2); (try clear z1); clear c1 c2 h; revert y; exact all_years (by decide +kernel))
theorem k_impl_WeekdayIn {P : Program} {f g1 g2 g3 g4 : FuncId} (h : Is_impl_WeekdayIn P f g1 g2 g3 g4) (c1 : C_impl_LongOfMonth P g1) (c2 : C_impl_within P g2) (c3 : C_impl_dayOf P g3) (c4 : C_impl_dayOfWeek P g4) : C_impl_WeekdayIn P f := by
  intro y m w c hy hm hw hc hl
  have hb := year_bound (y := y) (by omega)
  have hcu := cum_bound y (m - 1).toNat (by omega)
  have hmo := moM_le y m hm
  have hd : -37000 ≤ dayM y m 1 ∧ dayM y m 1 ≤ 74000 := by unfold dayM; omega
  have hk := week_le (dayM y m 1)
  have ht : 0 ≤ (w - weekM (dayM y m 1) + 7).tmod 7 ∧ (w - weekM (dayM y m 1) + 7).tmod 7 ≤ 6 := by rw [Int.tmod_eq_emod_of_nonneg (by omega)]; omega
  have a3 := c3 y m 1 hy hm (by omega)
  refine q_impl_WeekdayIn h y m w c ?_
  unfold wiM at hl ⊢
  generalize dayM y m 1 = D at *
  rw [wrap64_id (n := w - weekM D) (by omega) (by omega), wrap64_id (n := w - weekM D + 7) (by omega) (by omega), wrap64_id (n := c - 1) (by omega) (by omega), wrap64_id (n := 7 * (c - 1)) (by omega) (by omega),
    wrap64_id (n := D + (w - weekM D + 7).tmod 7) (by omega) (by omega), wrap64_id (n := D + (w - weekM D + 7).tmod 7 + 7 * (c - 1)) (by omega) (by omega), wrap64_id (n := D + moM y m) (by omega) (by omega)]
  refine ⟨c1 y m hy hm, fun _ => ⟨fun h => Bool.noConfusion h, fun _ => ⟨c2 _ _ _, fun _ => ⟨fun h => absurd h (by rw [in_true hw]; decide), fun _ => ⟨c2 _ _ _, fun _ => ⟨fun h => absurd h (by rw [in_true hc]; decide), fun _ => ⟨a3, fun _ => ⟨c4 D (by omega), fun _ => ⟨by omega, fun _ => ⟨fun h => ?_, fun _ => rfl⟩⟩⟩⟩⟩⟩⟩⟩⟩⟩
  have := of_decide_eq_true h; omega

end Go.Proofs.LV
