/- Lists of lists: the laws' copies of them, their marks. -/
import Derived.Test.YtjfgmnfkkehgfaaLvFnGX
import Derived.Test.YtjfgmnfkkehgfaaLvFnMX
namespace Go.Proofs.LV
open Go
set_option linter.unusedVariables false
set_option linter.unusedSimpArgs false

abbrev NW (n : Nat) (xss : LL) : AV := .nw n 0 .f32 xss none
/-- the numbers of the first n rows -/
def totN (xss : LL) (n : Nat) : Nat := accN (fun j s => s + (xss.getD j []).length) n 0
def msR (xss : LL) (k : Int) (j : Nat) : List Nat := marksM (xss.getD j []).length (k + totN xss j)
def marksSS (xss : LL) (k : Int) : LL := tab xss.length (msR xss k)
def szSS (xss : LL) (i : Int) : Int := if i < xss.length + totN xss xss.length then -1 else i - (xss.length + totN xss xss.length)

-- FN laws_toFloat32SS
/-- laws.toFloat32SS: slots 23, results [.t 2]; calls [20:g_laws_toFloat32S]; names [(a, 0), (a, 1), (out, 3), (i, 4)] -/
def ps_laws_toFloat32SS : List Nat := [0, 2, 3, 4, 11]
def lv_laws_toFloat32SS_L0 : List Nat := [0, 3, 4]
def b_laws_toFloat32SS_L0 (g_laws_toFloat32S : FuncId) : VCode :=
  (.seq
   (.seq
    (.region false [
     ⟨some 8, .mv, [.t 4], none⟩,
     ⟨some 9, .mv, [.t 0], none⟩,
     ⟨some 10, .len, [.t 9], none⟩,
     ⟨some 11, (.bin .lss), [.t 8, .t 10], none⟩])
    (.cond (.t 11)
     .skip
     (.exit 0)))
   (.seq
    (.block 1
     (.region false [
      ⟨some 14, .mv, [.t 3], none⟩,
      ⟨some 15, .mv, [.t 4], none⟩,
      ⟨some 16, .mv, [.t 0], none⟩,
      ⟨some 17, .mv, [.t 4], none⟩,
      ⟨some 18, .iaddr, [.t 16, .t 17], none⟩,
      ⟨some 19, .load, [.t 18], none⟩,
      ⟨some 20, (.call g_laws_toFloat32S), [.t 19], none⟩,
      ⟨some 21, .iaddr, [.t 14, .t 15], none⟩,
      ⟨none, .store, [.t 21, .t 20], none⟩]))
    (.region false [
     ⟨some 12, .mv, [.t 4], none⟩,
     ⟨some 13, (.bin .add), [.t 12, .k (.i .i64 1)], none⟩,
     ⟨some 4, .mv, [.t 13], none⟩])))

def b_laws_toFloat32SS (g_laws_toFloat32S : FuncId) : VCode :=
  (.seq
   (.region false [
    ⟨some 2, (.nilsl (.ff .f32 [])), [], none⟩])
   (.seq
    (.region false [
     ⟨some 5, .mv, [.t 0], none⟩,
     ⟨some 6, .len, [.t 5], none⟩,
     ⟨some 7, (.mksl (.sl .imm 0 (.f .f32 []))), [.t 6, .t 6], none⟩,
     ⟨some 3, .mv, [.t 7], none⟩])
    (.seq
     (.seq
      (.region false [
       ⟨some 4, .mv, [.k (.i .i64 0)], none⟩])
      (.block 0 (.loop (b_laws_toFloat32SS_L0 g_laws_toFloat32S))))
     (.seq
      (.region false [
       ⟨some 22, .mv, [.t 3], none⟩,
       ⟨some 2, .mv, [.t 22], none⟩])
      .ret))))

abbrev Is_laws_toFloat32SS (P : Program) (g_f : FuncId) (g_laws_toFloat32S : FuncId) : Prop := FnIs P g_f 23 [.t 2] (b_laws_toFloat32SS g_laws_toFloat32S)

abbrev C_laws_toFloat32SS (P : Program) (g_f : FuncId) : Prop := ∀ (xss : LL) (hx : xss.length ≤ 4294967296) (hr : ∀ r ∈ xss, r.length ≤ 4294967296), VCall P g_f [PF [0] xss] (NW 0 xss)
def oc1_laws_toFloat32SS (as : List AV) : T AV := match as with | [.sl _ _ (.ff _ xss)] => .leaf (NW 0 xss) | _ => .fail
def oc_laws_toFloat32SS (xss : LL) (d : Nat) (as : List AV) : T AV := match d with | 20 => oc1_laws_toFloat32S as | _ => .fail
def h_laws_toFloat32SS_L0 (xss : LL) (out : LL) (i : Int) : Env := [AV.sl (Tag.par [0]) 0 (Cont.ff FloatKind.f32 xss), .any, .any, .nw 56 0 FloatKind.f32 out none, .i IntKind.i64 i] ++ anys 18

theorem q_laws_toFloat32SS_L0 {VC : FuncId → List AV → AV → Prop} {g_laws_toFloat32S : FuncId} (xss : LL) (out : LL) (i : Int) {e_ : Ex} {σ_ : Env} (ht : T.ok (fun x_ => x_ = (e_, σ_)) (
      T.ite (decide (i < (↑(List.length xss) : Int)))
        (T.ob (0 ≤ i ∧ i < (↑(List.length xss) : Int))
          (T.ob (VC g_laws_toFloat32S [AV.sl (Tag.par [0]) 0 (Cont.f FloatKind.f32 (List.getD xss (Int.toNat i) []))] (AV.sl (Tag.own 0) 0 (Cont.f FloatKind.f32 (List.getD xss (Int.toNat i) []))))
            (T.ob (0 ≤ i ∧ i < (↑(List.length out) : Int)) (T.ob True (T.leaf (Ex.normal, h_laws_toFloat32SS_L0 xss (List.set out (0 + Int.toNat i) (List.getD xss (Int.toNat i) [])) (IntKind.wrap IntKind.i64 (i + 1))))))))
        (T.leaf (Ex.exit 0, h_laws_toFloat32SS_L0 xss out i)))) :
    Exec VC ps_laws_toFloat32SS (b_laws_toFloat32SS_L0 g_laws_toFloat32S) (h_laws_toFloat32SS_L0 xss out i) e_ σ_ := evL_of (lv := lv_laws_toFloat32SS_L0) (rs := [2]) (O := ⟨oc_laws_toFloat32SS xss, fun _ _ => none⟩) (by kernel_rfl) ht

theorem q_laws_toFloat32SS {P : Program} {g_f : FuncId} {g_laws_toFloat32S : FuncId} (h_ : Is_laws_toFloat32SS P g_f g_laws_toFloat32S) (xss : LL) (ht : T.ok (fun x_ => x_ = NW 0 xss) (
      T.ob ((↑(List.length xss) : Int) = (↑(List.length xss) : Int) ∧ 0 ≤ (↑(List.length xss) : Int) ∧ (↑(List.length xss) : Int) ≤ 4294967296)
        (T.ob
          (Exec (VCall P) ps_laws_toFloat32SS (VCode.block 0 (VCode.loop (b_laws_toFloat32SS_L0 g_laws_toFloat32S))) (h_laws_toFloat32SS_L0 xss (List.replicate (Int.toNat (↑(List.length xss) : Int)) []) 0) Ex.normal
            (h_laws_toFloat32SS_L0 xss xss (↑(List.length xss) : Int)))
          (T.leaf (AV.nw (List.idxOf 56 (dedup (AV.nms (AV.nw 56 0 FloatKind.f32 xss none)))) 0 FloatKind.f32 xss none))))) :
    VCall P g_f [PF [0] xss] (NW 0 xss) := h_.call_of ps_laws_toFloat32SS ⟨oc_laws_toFloat32SS xss, fun id σ => match id with | 0 => some (lv_laws_toFloat32SS_L0, .leaf (.normal, h_laws_toFloat32SS_L0 xss xss xss.length)) | _ => none⟩ (by kernel_rfl) ht

-- END laws_toFloat32SS

-- FN laws_eqFloat32SS
/-- laws.eqFloat32SS: slots 27, results [.t 4]; calls [25:g_laws_eqFloat32S]; names [(a, 0), (b, 1), (a, 2), (b, 3), (i, 5)] -/
def ps_laws_eqFloat32SS : List Nat := [0, 1, 4, 5, 10, 14, 26]
def lv_laws_eqFloat32SS_L0 : List Nat := [0, 1, 5]
def b_laws_eqFloat32SS_L0 (g_laws_eqFloat32S : FuncId) : VCode :=
  (.seq
   (.seq
    (.region false [
     ⟨some 11, .mv, [.t 5], none⟩,
     ⟨some 12, .mv, [.t 0], none⟩,
     ⟨some 13, .len, [.t 12], none⟩,
     ⟨some 14, (.bin .lss), [.t 11, .t 13], none⟩])
    (.cond (.t 14)
     .skip
     (.exit 0)))
   (.seq
    (.block 1
     (.seq
      (.region true [
       ⟨some 17, .mv, [.t 0], none⟩,
       ⟨some 18, .mv, [.t 5], none⟩,
       ⟨some 19, .iaddr, [.t 17, .t 18], none⟩,
       ⟨some 20, .load, [.t 19], none⟩,
       ⟨some 21, .mv, [.t 1], none⟩,
       ⟨some 22, .mv, [.t 5], none⟩,
       ⟨some 23, .iaddr, [.t 21, .t 22], none⟩,
       ⟨some 24, .load, [.t 23], none⟩,
       ⟨some 25, (.call g_laws_eqFloat32S), [.t 20, .t 24], none⟩,
       ⟨some 26, .not, [.t 25], none⟩])
      (.cond (.t 26)
       (.seq
        (.region false [
         ⟨some 4, .mv, [.k (.b false)], none⟩])
        .ret)
       .skip)))
    (.region false [
     ⟨some 15, .mv, [.t 5], none⟩,
     ⟨some 16, (.bin .add), [.t 15, .k (.i .i64 1)], none⟩,
     ⟨some 5, .mv, [.t 16], none⟩])))

def b_laws_eqFloat32SS (g_laws_eqFloat32S : FuncId) : VCode :=
  (.seq
   (.region false [
    ⟨some 4, .mv, [.k (.b false)], none⟩])
   (.seq
    (.seq
     (.region false [
      ⟨some 6, .mv, [.t 0], none⟩,
      ⟨some 7, .len, [.t 6], none⟩,
      ⟨some 8, .mv, [.t 1], none⟩,
      ⟨some 9, .len, [.t 8], none⟩,
      ⟨some 10, (.bin .neq), [.t 7, .t 9], none⟩])
     (.cond (.t 10)
      (.seq
       (.region false [
        ⟨some 4, .mv, [.k (.b false)], none⟩])
       .ret)
      .skip))
    (.seq
     (.seq
      (.region false [
       ⟨some 5, .mv, [.k (.i .i64 0)], none⟩])
      (.block 0 (.loop (b_laws_eqFloat32SS_L0 g_laws_eqFloat32S))))
     (.seq
      (.region false [
       ⟨some 4, .mv, [.k (.b true)], none⟩])
      .ret))))

abbrev Is_laws_eqFloat32SS (P : Program) (g_f : FuncId) (g_laws_eqFloat32S : FuncId) : Prop := FnIs P g_f 27 [.t 4] (b_laws_eqFloat32SS g_laws_eqFloat32S)

abbrev C_laws_eqFloat32SS (P : Program) (g_f : FuncId) : Prop := ∀ (xss : LL) (yss : LL) (he : yss = xss) (hx : xss.length ≤ 4294967296) (hr : ∀ r ∈ xss, r.length ≤ 4294967296), VCall P g_f [PF [0] xss, PF [1] yss] (.b true)
def oc1_laws_eqFloat32SS (as : List AV) : T AV := match as with | [.sl _ _ (.ff _ xss), .sl _ _ (.ff _ yss)] => .leaf (.b true) | _ => .fail
def oc_laws_eqFloat32SS (xss : LL) (yss : LL) (d : Nat) (as : List AV) : T AV := match d with | 25 => oc1_laws_eqFloat32S as | _ => .fail
def h_laws_eqFloat32SS_L0 (xss : LL) (yss : LL) (i : Int) : Env := [AV.sl (Tag.par [0]) 0 (Cont.ff FloatKind.f32 xss), AV.sl (Tag.par [1]) 0 (Cont.ff FloatKind.f32 yss), .any, .any, .any, .i IntKind.i64 i] ++ anys 21

theorem q_laws_eqFloat32SS_L0 {VC : FuncId → List AV → AV → Prop} {g_laws_eqFloat32S : FuncId} (xss : LL) (yss : LL) (i : Int) {e_ : Ex} {σ_ : Env} (ht : T.ok (fun x_ => x_ = (e_, σ_)) (
      T.ite (decide (i < (↑(List.length xss) : Int)))
        (T.ob (0 ≤ i ∧ i < (↑(List.length xss) : Int))
          (T.ob (0 ≤ i ∧ i < (↑(List.length yss) : Int))
            (T.ob (VC g_laws_eqFloat32S [AV.sl (Tag.par [0]) 0 (Cont.f FloatKind.f32 (List.getD xss (Int.toNat i) [])), AV.sl (Tag.par [1]) 0 (Cont.f FloatKind.f32 (List.getD yss (Int.toNat i) []))] (AV.b true))
              (T.ite false (T.leaf (Ex.ret, anys 4 ++ AV.b false :: anys 22)) (T.leaf (Ex.normal, h_laws_eqFloat32SS_L0 xss yss (IntKind.wrap IntKind.i64 (i + 1))))))))
        (T.leaf (Ex.exit 0, h_laws_eqFloat32SS_L0 xss yss i)))) :
    Exec VC ps_laws_eqFloat32SS (b_laws_eqFloat32SS_L0 g_laws_eqFloat32S) (h_laws_eqFloat32SS_L0 xss yss i) e_ σ_ := evL_of (lv := lv_laws_eqFloat32SS_L0) (rs := [4]) (O := ⟨oc_laws_eqFloat32SS xss yss, fun _ _ => none⟩) (by kernel_rfl) ht

theorem q_laws_eqFloat32SS {P : Program} {g_f : FuncId} {g_laws_eqFloat32S : FuncId} (h_ : Is_laws_eqFloat32SS P g_f g_laws_eqFloat32S) (xss : LL) (yss : LL) (ht : T.ok (fun x_ => x_ = .b true) (
      T.ite ((↑(List.length xss) : Int) != (↑(List.length yss) : Int)) (T.leaf (AV.b false))
        (T.ob (Exec (VCall P) ps_laws_eqFloat32SS (VCode.block 0 (VCode.loop (b_laws_eqFloat32SS_L0 g_laws_eqFloat32S))) (h_laws_eqFloat32SS_L0 xss yss 0) Ex.normal (h_laws_eqFloat32SS_L0 xss yss (↑(List.length xss) : Int)))
          (T.leaf (AV.b true))))) :
    VCall P g_f [PF [0] xss, PF [1] yss] (.b true) := h_.call_of ps_laws_eqFloat32SS ⟨oc_laws_eqFloat32SS xss yss, fun id σ => match id with | 0 => some (lv_laws_eqFloat32SS_L0, .leaf (.normal, h_laws_eqFloat32SS_L0 xss yss xss.length)) | _ => none⟩ (by kernel_rfl) ht

-- END laws_eqFloat32SS

-- FN laws_markFloat32SS
/-- laws.markFloat32SS: slots 19, results [.t 4]; calls [17:g_laws_markFloat32S]; names [(a, 0), (k, 1), (a, 2), (k, 3), (i, 5)] -/
def ps_laws_markFloat32SS : List Nat := [0, 1, 4, 5, 9]
def lv_laws_markFloat32SS_L0 : List Nat := [0, 1, 5]
def b_laws_markFloat32SS_L0 (g_laws_markFloat32S : FuncId) : VCode :=
  (.seq
   (.seq
    (.region false [
     ⟨some 6, .mv, [.t 5], none⟩,
     ⟨some 7, .mv, [.t 0], none⟩,
     ⟨some 8, .len, [.t 7], none⟩,
     ⟨some 9, (.bin .lss), [.t 6, .t 8], none⟩])
    (.cond (.t 9)
     .skip
     (.exit 0)))
   (.seq
    (.block 1
     (.region false [
      ⟨some 12, .mv, [.t 0], none⟩,
      ⟨some 13, .mv, [.t 5], none⟩,
      ⟨some 14, .iaddr, [.t 12, .t 13], none⟩,
      ⟨some 15, .load, [.t 14], none⟩,
      ⟨some 16, .mv, [.t 1], none⟩,
      ⟨some 17, (.call g_laws_markFloat32S), [.t 15, .t 16], none⟩,
      ⟨some 1, .mv, [.t 17], none⟩]))
    (.region false [
     ⟨some 10, .mv, [.t 5], none⟩,
     ⟨some 11, (.bin .add), [.t 10, .k (.i .i64 1)], none⟩,
     ⟨some 5, .mv, [.t 11], none⟩])))

def b_laws_markFloat32SS (g_laws_markFloat32S : FuncId) : VCode :=
  (.seq
   (.region false [
    ⟨some 4, .mv, [.k (.i .i64 0)], none⟩])
   (.seq
    (.seq
     (.region false [
      ⟨some 5, .mv, [.k (.i .i64 0)], none⟩])
     (.block 0 (.loop (b_laws_markFloat32SS_L0 g_laws_markFloat32S))))
    (.seq
     (.region false [
      ⟨some 18, .mv, [.t 1], none⟩,
      ⟨some 4, .mv, [.t 18], none⟩])
     .ret)))

abbrev Is_laws_markFloat32SS (P : Program) (g_f : FuncId) (g_laws_markFloat32S : FuncId) : Prop := FnIs P g_f 19 [.t 4] (b_laws_markFloat32SS g_laws_markFloat32S)

abbrev C_laws_markFloat32SS (P : Program) (g_f : FuncId) : Prop := ∀ (xss : LL) (k : Int) (hk : 0 ≤ k ∧ k ≤ 16) (hx : totN xss xss.length ≤ 16777216) (hr : xss.length ≤ 16777216), VCall P g_f [NW HI xss, .i .i64 k] ((AV.M (.i .i64 (k + totN xss xss.length)) [NW HI (marksSS xss k), .i .i64 k]))
def oc1_laws_markFloat32SS (as : List AV) : T AV := match as with | [.sl _ _ (.ff _ xss), .i .i64 k] => .leaf ((AV.M (.i .i64 (k + totN xss xss.length)) [NW HI (marksSS xss k), .i .i64 k])) | _ => .fail
def oc_laws_markFloat32SS (xss : LL) (k : Int) (d : Nat) (as : List AV) : T AV := match d with | 17 => oc1_laws_markFloat32S as | _ => .fail
def h_laws_markFloat32SS_L0 (xss : LL) (k : Int) (a : LL) (k2 : Int) (i : Int) : Env := [.nw HI 0 FloatKind.f32 a none, .i IntKind.i64 k2, .any, .any, .any, .i IntKind.i64 i] ++ anys 13

theorem q_laws_markFloat32SS_L0 {VC : FuncId → List AV → AV → Prop} {g_laws_markFloat32S : FuncId} (xss : LL) (k : Int) (a : LL) (k2 : Int) (i : Int) {e_ : Ex} {σ_ : Env} (ht : T.ok (fun x_ => x_ = (e_, σ_)) (
      T.ite (decide (i < (↑(List.length a) : Int)))
        (T.ob (0 ≤ i ∧ i < (↑(List.length a) : Int))
          (T.ob
            (VC g_laws_markFloat32S [AV.sl (Tag.own 800000) 0 (Cont.f FloatKind.f32 (List.getD a (Int.toNat i) [])), AV.i IntKind.i64 k2]
                (AV.bx Tag.nil
                  [AV.i IntKind.i64 (k2 + (↑(List.length (List.getD a (Int.toNat i) [])) : Int)),
                    AV.tup [AV.sl (Tag.own 800000) 0 (Cont.f FloatKind.f32 (marksM (List.length (List.getD a (Int.toNat i) [])) k2)), AV.i IntKind.i64 k2]]) ∧
              (0 ≤ 0 + Int.toNat i → 0 + Int.toNat i - 0 < List.length a → List.length (List.getD a (0 + Int.toNat i - 0) []) = List.length (marksM (List.length (List.getD a (Int.toNat i) [])) k2)) ∧
                (0 ≤ 0 + Int.toNat i → 0 + Int.toNat i - 0 < List.length a → List.length (List.getD a (0 + Int.toNat i - 0) []) = List.length (marksM (List.length (List.getD a (Int.toNat i) [])) k2)) ∧
                  (0 + Int.toNat i = 0 + Int.toNat i → List.length (List.getD a (Int.toNat i) []) = List.length (marksM (List.length (List.getD a (Int.toNat i) [])) k2)) ∧ True)
            (T.leaf
              (Ex.normal,
                h_laws_markFloat32SS_L0 xss k (if 0 ≤ 0 + Int.toNat i then List.set a (0 + Int.toNat i - 0) (marksM (List.length (List.getD a (Int.toNat i) [])) k2) else a)
                  (k2 + (↑(List.length (List.getD a (Int.toNat i) [])) : Int)) (IntKind.wrap IntKind.i64 (i + 1))))))
        (T.leaf (Ex.exit 0, h_laws_markFloat32SS_L0 xss k a k2 i)))) :
    Exec VC ps_laws_markFloat32SS (b_laws_markFloat32SS_L0 g_laws_markFloat32S) (h_laws_markFloat32SS_L0 xss k a k2 i) e_ σ_ := evL_of (lv := lv_laws_markFloat32SS_L0) (rs := [4]) (O := ⟨oc_laws_markFloat32SS xss k, fun _ _ => none⟩) (by kernel_rfl) ht

theorem q_laws_markFloat32SS {P : Program} {g_f : FuncId} {g_laws_markFloat32S : FuncId} (h_ : Is_laws_markFloat32SS P g_f g_laws_markFloat32S) (xss : LL) (k : Int) (ht : T.ok (fun x_ => x_ = (.i .i64 (k + totN xss xss.length), [NW HI (marksSS xss k), .i .i64 k])) (
      T.ob
        (Exec (VCall P) ps_laws_markFloat32SS (VCode.block 0 (VCode.loop (b_laws_markFloat32SS_L0 g_laws_markFloat32S))) (h_laws_markFloat32SS_L0 xss k xss k 0) Ex.normal
          (h_laws_markFloat32SS_L0 xss k (marksSS xss k) (k + (↑(totN xss (List.length xss)) : Int)) (↑(List.length xss) : Int)))
        (T.ob (List.length xss = List.length (marksSS xss k) ∧ True) (T.leaf (AV.i IntKind.i64 (k + (↑(totN xss (List.length xss)) : Int)), [AV.nw HI 0 FloatKind.f32 (marksSS xss k) none, AV.i IntKind.i64 k]))))) :
    VCall P g_f [NW HI xss, .i .i64 k] (AV.M (.i .i64 (k + totN xss xss.length)) [NW HI (marksSS xss k), .i .i64 k]) := h_.callM_of ps_laws_markFloat32SS [0] ⟨oc_laws_markFloat32SS xss k, fun id σ => match id with | 0 => some (lv_laws_markFloat32SS_L0, .leaf (.normal, h_laws_markFloat32SS_L0 xss k (marksSS xss k) (k + totN xss xss.length) xss.length)) | _ => none⟩ (by kernel_rfl) ht

-- END laws_markFloat32SS


-- FN laws_szFloat32SS
/-- laws.szFloat32SS: slots 27, results [.t 4]; calls [23:g_laws_szFloat32S]; names [(a, 0), (left, 1), (a, 2), (left, 3), (i, 5)] -/
def ps_laws_szFloat32SS : List Nat := [0, 1, 4, 5, 11, 15, 25]
def lv_laws_szFloat32SS_L0 : List Nat := [0, 1, 5]
def b_laws_szFloat32SS_L0 (g_laws_szFloat32S : FuncId) : VCode :=
  (.seq
   (.seq
    (.region false [
     ⟨some 12, .mv, [.t 5], none⟩,
     ⟨some 13, .mv, [.t 0], none⟩,
     ⟨some 14, .len, [.t 13], none⟩,
     ⟨some 15, (.bin .lss), [.t 12, .t 14], none⟩])
    (.cond (.t 15)
     .skip
     (.exit 0)))
   (.seq
    (.block 1
     (.seq
      (.region false [
       ⟨some 18, .mv, [.t 0], none⟩,
       ⟨some 19, .mv, [.t 5], none⟩,
       ⟨some 20, .iaddr, [.t 18, .t 19], none⟩,
       ⟨some 21, .load, [.t 20], none⟩,
       ⟨some 22, .mv, [.t 1], none⟩,
       ⟨some 23, (.call g_laws_szFloat32S), [.t 21, .t 22], none⟩,
       ⟨some 1, .mv, [.t 23], none⟩])
      (.seq
       (.region false [
        ⟨some 24, .mv, [.t 1], none⟩,
        ⟨some 25, (.bin .lss), [.t 24, .k (.i .i64 0)], none⟩])
       (.cond (.t 25)
        (.seq
         (.region false [
          ⟨some 4, .mv, [.k (.i .i64 (-1))], none⟩])
         .ret)
        .skip))))
    (.region false [
     ⟨some 16, .mv, [.t 5], none⟩,
     ⟨some 17, (.bin .add), [.t 16, .k (.i .i64 1)], none⟩,
     ⟨some 5, .mv, [.t 17], none⟩])))

def b_laws_szFloat32SS (g_laws_szFloat32S : FuncId) : VCode :=
  (.seq
   (.region false [
    ⟨some 4, .mv, [.k (.i .i64 0)], none⟩])
   (.seq
    (.region false [
     ⟨some 6, .mv, [.t 1], none⟩,
     ⟨some 7, .mv, [.t 0], none⟩,
     ⟨some 8, .len, [.t 7], none⟩,
     ⟨some 9, (.bin .sub), [.t 6, .t 8], none⟩,
     ⟨some 1, .mv, [.t 9], none⟩])
    (.seq
     (.seq
      (.region false [
       ⟨some 10, .mv, [.t 1], none⟩,
       ⟨some 11, (.bin .lss), [.t 10, .k (.i .i64 0)], none⟩])
      (.cond (.t 11)
       (.seq
        (.region false [
         ⟨some 4, .mv, [.k (.i .i64 (-1))], none⟩])
        .ret)
       .skip))
     (.seq
      (.seq
       (.region false [
        ⟨some 5, .mv, [.k (.i .i64 0)], none⟩])
       (.block 0 (.loop (b_laws_szFloat32SS_L0 g_laws_szFloat32S))))
      (.seq
       (.region false [
        ⟨some 26, .mv, [.t 1], none⟩,
        ⟨some 4, .mv, [.t 26], none⟩])
       .ret)))))

abbrev Is_laws_szFloat32SS (P : Program) (g_f : FuncId) (g_laws_szFloat32S : FuncId) : Prop := FnIs P g_f 27 [.t 4] (b_laws_szFloat32SS g_laws_szFloat32S)

abbrev C_laws_szFloat32SS (P : Program) (g_f : FuncId) : Prop := ∀ (xss : LL) (i : Int) (hi : 0 ≤ i ∧ i ≤ 4294967296) (hx : xss.length ≤ maxLen) (hr : ∀ r ∈ xss, r.length ≤ maxLen), VCall P g_f [PF [0] xss, .i .i64 i] (.i .i64 (szSS xss i))
def oc1_laws_szFloat32SS (as : List AV) : T AV := match as with | [.sl _ _ (.ff _ xss), .i .i64 i] => .leaf (.i .i64 (szSS xss i)) | _ => .fail
def oc_laws_szFloat32SS (xss : LL) (i : Int) (d : Nat) (as : List AV) : T AV := match d with | 23 => oc1_laws_szFloat32S as | _ => .fail
def h_laws_szFloat32SS_L0 (xss : LL) (i : Int) (left : Int) (i2 : Int) : Env := [AV.sl (Tag.par [0]) 0 (Cont.ff FloatKind.f32 xss), .i IntKind.i64 left, .any, .any, .any, .i IntKind.i64 i2] ++ anys 21

theorem q_laws_szFloat32SS_L0 {VC : FuncId → List AV → AV → Prop} {g_laws_szFloat32S : FuncId} (xss : LL) (i : Int) (left : Int) (i2 : Int) {e_ : Ex} {σ_ : Env} (ht : T.ok (fun x_ => x_ = (e_, σ_)) (
      T.ite (decide (i2 < (↑(List.length xss) : Int)))
        (T.ob (0 ≤ i2 ∧ i2 < (↑(List.length xss) : Int))
          (T.ob (VC g_laws_szFloat32S [AV.sl (Tag.par [0]) 0 (Cont.f FloatKind.f32 (List.getD xss (Int.toNat i2) [])), AV.i IntKind.i64 left] (AV.i IntKind.i64 (szM (List.length (List.getD xss (Int.toNat i2) [])) left)))
            (T.ite (decide (szM (List.length (List.getD xss (Int.toNat i2) [])) left < 0)) (T.leaf (Ex.ret, anys 4 ++ AV.i IntKind.i64 (-1) :: anys 22))
              (T.leaf (Ex.normal, h_laws_szFloat32SS_L0 xss i (szM (List.length (List.getD xss (Int.toNat i2) [])) left) (IntKind.wrap IntKind.i64 (i2 + 1)))))))
        (T.leaf (Ex.exit 0, h_laws_szFloat32SS_L0 xss i left i2)))) :
    Exec VC ps_laws_szFloat32SS (b_laws_szFloat32SS_L0 g_laws_szFloat32S) (h_laws_szFloat32SS_L0 xss i left i2) e_ σ_ := evL_of (lv := lv_laws_szFloat32SS_L0) (rs := [4]) (O := ⟨oc_laws_szFloat32SS xss i, fun _ _ => none⟩) (by kernel_rfl) ht

theorem q_laws_szFloat32SS {P : Program} {g_f : FuncId} {g_laws_szFloat32S : FuncId} (h_ : Is_laws_szFloat32SS P g_f g_laws_szFloat32S) (xss : LL) (i : Int) (ht : T.ok (fun x_ => x_ = .i .i64 (szSS xss i)) (
      T.ite (decide (IntKind.wrap IntKind.i64 (i - (↑(List.length xss) : Int)) < 0)) (T.leaf (AV.i IntKind.i64 (-1)))
        (T.ite (allN (List.length xss) fun (j : Nat) => decide ((↑(List.length xss) : Int) + (↑(totN xss (j + 1)) : Int) ≤ i))
          (T.ob
            (Exec (VCall P) ps_laws_szFloat32SS (VCode.block 0 (VCode.loop (b_laws_szFloat32SS_L0 g_laws_szFloat32S))) (h_laws_szFloat32SS_L0 xss i (IntKind.wrap IntKind.i64 (i - (↑(List.length xss) : Int))) 0) Ex.normal
              (h_laws_szFloat32SS_L0 xss i (i - (↑(List.length xss) : Int) - (↑(totN xss (List.length xss)) : Int)) (↑(List.length xss) : Int)))
            (T.leaf (AV.i IntKind.i64 (i - (↑(List.length xss) : Int) - (↑(totN xss (List.length xss)) : Int)))))
          (T.ob
            (Exec (VCall P) ps_laws_szFloat32SS (VCode.block 0 (VCode.loop (b_laws_szFloat32SS_L0 g_laws_szFloat32S))) (h_laws_szFloat32SS_L0 xss i (IntKind.wrap IntKind.i64 (i - (↑(List.length xss) : Int))) 0) Ex.ret
              (anys 4 ++ AV.i IntKind.i64 (-1) :: anys 22))
            (T.leaf (AV.i IntKind.i64 (-1))))))) :
    VCall P g_f [PF [0] xss, .i .i64 i] (.i .i64 (szSS xss i)) := h_.call_of ps_laws_szFloat32SS ⟨oc_laws_szFloat32SS xss i, fun id σ => match id with | 0 => some (lv_laws_szFloat32SS_L0, .ite (allN xss.length fun j => decide (xss.length + totN xss (j + 1) ≤ i)) (.leaf (.normal, h_laws_szFloat32SS_L0 xss i (i - xss.length - totN xss xss.length) xss.length)) (.leaf (.ret, anys 4 ++ .i .i64 (-1) :: anys 22))) | _ => none⟩ (by kernel_rfl) ht

-- END laws_szFloat32SS

theorem totN_succ (xss : LL) (n : Nat) : totN xss (n + 1) = totN xss n + (xss.getD n []).length := rfl
theorem totN_le (xss : LL) : ∀ {n m : Nat}, n ≤ m → totN xss n ≤ totN xss m := by
  intro n m h
  induction h with
  | refl => exact Nat.le_refl _
  | step _ ih => rw [Nat.succ_eq_add_one, totN_succ]; omega
theorem row_tot (xss : LL) (i : Nat) (h : i < xss.length) : totN xss i + (xss.getD i []).length ≤ totN xss xss.length := by
  rw [← totN_succ]; exact totN_le xss h
theorem row_mem (xss : LL) (i : Nat) (h : i < xss.length) : xss.getD i [] ∈ xss := by
  simp [List.getD, h]
theorem marksSS_len (xss : LL) (k : Int) : (marksSS xss k).length = xss.length := tab_len _ _
theorem marksSS_get (xss : LL) (k : Int) (i : Nat) (h : i < xss.length) : (marksSS xss k).getD i [] = marksM (xss.getD i []).length (k + totN xss i) := tab_get _ _ _ _ h

theorem k_laws_toFloat32SS {P : Program} {f g : FuncId} (h : Is_laws_toFloat32SS P f g) (c1 : C_laws_toFloat32S P g) : C_laws_toFloat32SS P f := by
  intro xss hx hr
  refine q_laws_toFloat32SS h xss ⟨⟨rfl, by omega, by omega⟩, fun _ => ⟨?_, fun _ => rfl⟩⟩
  refine for_up (e := .exit 0) xss.length (fun i => h_laws_toFloat32SS_L0 xss (xss.take i ++ List.replicate (xss.length - i) []) i) (by simp) (fun i hi => ?_) ?_
  · refine q_laws_toFloat32SS_L0 _ _ _ ⟨fun _ => ⟨by omega, fun _ => ⟨?_, fun _ => ⟨by simp; omega, fun _ => ⟨trivial, fun _ => ?_⟩⟩⟩⟩, fun h => absurd h (by simp; omega)⟩
    · rw [Int.toNat_natCast]; exact c1 _ (hr _ (row_mem _ _ hi))
    show _ = _
    rw [wrap64_id (by omega) (by omega), replicate_next _ _ _ hi]
    simp only [Int.toNat_natCast, Nat.zero_add, Nat.sub_zero, take_set_next xss i [] hi]
    rfl
  · refine q_laws_toFloat32SS_L0 _ _ _ ⟨fun h => absurd h (by simp), fun _ => by simp [T.ok]⟩

theorem k_laws_eqFloat32SS {P : Program} {f g : FuncId} (h : Is_laws_eqFloat32SS P f g) (c1 : C_laws_eqFloat32S P g) : C_laws_eqFloat32SS P f := by
  rintro xss yss rfl hx hr
  refine q_laws_eqFloat32SS h _ _ ⟨fun h => absurd h (by simp), fun _ => ⟨?_, fun _ => rfl⟩⟩
  refine for_up (e := .exit 0) yss.length (fun i => h_laws_eqFloat32SS_L0 yss yss i) rfl (fun i hi => ?_) ?_
  · refine q_laws_eqFloat32SS_L0 _ _ _ ⟨fun _ => ⟨by omega, fun _ => ⟨by omega, fun _ => ⟨?_, fun _ => ⟨fun h => Bool.noConfusion h, fun _ => ?_⟩⟩⟩⟩, fun h => absurd h (by simp; omega)⟩
    · rw [Int.toNat_natCast]; exact c1 _ _ rfl (hr _ (row_mem _ _ hi))
    show _ = _
    rw [wrap64_id (by omega) (by omega)]
    rfl
  · exact q_laws_eqFloat32SS_L0 _ _ _ ⟨fun h => absurd h (by simp), fun _ => rfl⟩

theorem k_laws_markFloat32SS {P : Program} {f g : FuncId} (h : Is_laws_markFloat32SS P f g) (c1 : C_laws_markFloat32S P g) : C_laws_markFloat32SS P f := by
  intro xss k hk hx hr
  refine q_laws_markFloat32SS h xss k ⟨?_, fun _ => ⟨⟨(marksSS_len _ _).symm, trivial⟩, fun _ => rfl⟩⟩
  refine for_up (e := .exit 0) xss.length (fun i => h_laws_markFloat32SS_L0 xss k ((marksSS xss k).take i ++ xss.drop i) (k + totN xss i) i) (by simp [totN, accN]) (fun i hi => ?_) ?_
  · have ht := row_tot xss i hi
    have hl : ((marksSS xss k).take i ++ xss.drop i).length = xss.length := by simp [marksSS_len]; omega
    have hg : ((marksSS xss k).take i ++ xss.drop i).getD i [] = xss.getD i [] := by
      have : ((marksSS xss k).take i).length = i := by simp [marksSS_len]; omega
      simp only [List.getD]
      rw [List.getElem?_append_right (by omega), this, Nat.sub_self, List.getElem?_drop, Nat.add_zero]
    have hs : ((marksSS xss k).take i ++ xss.drop i).set i (marksM (xss.getD i []).length (k + totN xss i)) = (marksSS xss k).take (i + 1) ++ xss.drop (i + 1) := by
      rw [List.drop_eq_getElem_cons hi, ← marksSS_get xss k i hi]
      exact take_set_next _ _ _ (by rw [marksSS_len]; exact hi) _ _
    have hn : ((i : Int)).toNat = i := Int.toNat_natCast i
    refine q_laws_markFloat32SS_L0 _ _ _ _ _ ?_
    simp only [hn, hg, hl, Nat.zero_add, Nat.sub_zero, Nat.zero_le, if_true, hs]
    refine ⟨fun _ => ⟨by omega, fun _ => ⟨⟨c1 _ _ (by omega) (by omega), fun _ _ => ?_, fun _ _ => ?_, fun _ => ?_, trivial⟩, fun _ => ?_⟩⟩, fun h => absurd h (by simp; omega)⟩
    · rw [marks_len]
    · rw [marks_len]
    · rw [marks_len]
    show _ = _
    rw [wrap64_id (by omega) (by omega), totN_succ]
    simp only [Int.natCast_add, Int.add_assoc]; rfl
  · refine q_laws_markFloat32SS_L0 _ _ _ _ _ ⟨fun h => absurd h (by simp [marksSS_len]), fun _ => ?_⟩
    have : (marksSS xss k).take xss.length = marksSS xss k := List.take_of_length_le (by rw [marksSS_len]; exact Nat.le_refl _)
    simp [T.ok, this]

theorem totN_marks (xss : LL) (k : Int) : ∀ {i : Nat}, i ≤ xss.length → totN (marksSS xss k) i = totN xss i := by
  intro i
  induction i with
  | zero => intro _; rfl
  | succ i ih => intro h; rw [totN_succ, totN_succ, ih (by omega), marksSS_get _ _ _ (by omega), marks_len]
theorem k_laws_szFloat32SS {P : Program} {f g : FuncId} (h : Is_laws_szFloat32SS P f g) (c1 : C_laws_szFloat32S P g) : C_laws_szFloat32SS P f := by
  intro xss i hi hx hr
  have hm := ml64 hx
  refine q_laws_szFloat32SS h xss i ?_
  rw [wrap64_id (n := i - xss.length) (by omega) (by omega)]
  refine ⟨fun h => ?_, fun h => ?_⟩
  · simp at h
    have := Int.natCast_nonneg (totN xss xss.length)
    simp only [T.ok, szSS]; rw [if_pos (by omega)]
  · simp at h
    have e0 : totN xss 0 = 0 := rfl
    have go : ∀ j, j < xss.length → (∀ m, m < j → decide ((xss.length : Int) + totN xss (m + 1) ≤ i) = true) → decide ((xss.length : Int) + totN xss (j + 1) ≤ i) = true →
        Exec (VCall P) ps_laws_szFloat32SS (b_laws_szFloat32SS_L0 g) (h_laws_szFloat32SS_L0 xss i (i - xss.length - totN xss j) j) .normal (h_laws_szFloat32SS_L0 xss i (i - xss.length - totN xss (j + 1)) (j + 1 : Nat)) := by
      intro j hj _ hc
      have hc := of_decide_eq_true hc
      have ts := totN_succ xss j
      refine q_laws_szFloat32SS_L0 _ _ _ _ ?_
      rw [Int.toNat_natCast]
      have a1 := c1 (xss.getD j []) (i - xss.length - totN xss j) (by omega) (hr _ (row_mem _ _ hj))
      have e : szM (xss.getD j []).length (i - xss.length - totN xss j) = i - xss.length - totN xss (j + 1) := by
        unfold szM; rw [if_neg (by omega)]; omega
      rw [e] at a1 ⊢
      refine ⟨fun _ => ⟨by omega, fun _ => ⟨a1, fun _ => ⟨fun h => ?_, fun _ => ?_⟩⟩⟩, fun h => absurd h (by simp; omega)⟩
      · simp at h; omega
      show _ = _
      rw [wrap64_id (by omega) (by omega)]; rfl
    refine ⟨fun h3 => ⟨?_, fun _ => ?_⟩, fun h3 => ⟨?_, fun _ => ?_⟩⟩
    · refine for_allS (e := .exit 0) _ xss.length (fun j => h_laws_szFloat32SS_L0 xss i (i - xss.length - totN xss j) j) h3 (by simp [e0]) go ?_
      exact q_laws_szFloat32SS_L0 _ _ _ _ ⟨fun h => absurd h (by simp), fun _ => rfl⟩
    · have : (xss.length : Int) + totN xss xss.length ≤ i := by
        cases hn : xss.length with
        | zero => rw [hn] at h; rw [show totN xss 0 = 0 from rfl]; simpa using h
        | succ m => have := allN_iff.1 h3 m (by omega); rw [hn] at this; exact of_decide_eq_true this
      simp only [T.ok, szSS]; rw [if_neg (by omega)]; congr 1; omega
    · refine for_oneS (e := .ret) _ xss.length (fun j => h_laws_szFloat32SS_L0 xss i (i - xss.length - totN xss j) j) h3 (by simp [e0]) go (fun j hj hb hc => ?_)
      have hc := of_decide_eq_false hc
      have ts := totN_succ xss j
      have ht : (xss.length : Int) + totN xss j ≤ i := by
        cases j with
        | zero => rw [e0]; omega
        | succ m => exact of_decide_eq_true (hb m (by omega))
      refine q_laws_szFloat32SS_L0 _ _ _ _ ?_
      rw [Int.toNat_natCast]
      have a1 := c1 (xss.getD j []) (i - xss.length - totN xss j) (by omega) (hr _ (row_mem _ _ hj))
      have e : szM (xss.getD j []).length (i - xss.length - totN xss j) = -1 := by
        unfold szM; rw [if_pos (by omega)]
      rw [e] at a1 ⊢
      refine ⟨fun _ => ⟨by omega, fun _ => ⟨a1, fun _ => ⟨fun _ => rfl, fun h => absurd h (by simp)⟩⟩⟩, fun h => absurd h (by simp; omega)⟩
    · have : i < (xss.length : Int) + totN xss xss.length := by
        obtain ⟨j, hj, h1, _⟩ := allN_not h3
        have h1 := of_decide_eq_false h1
        have := totN_le xss (show j + 1 ≤ xss.length by omega)
        omega
      simp only [T.ok, szSS]; rw [if_pos (by omega)]

end Go.Proofs.LV
