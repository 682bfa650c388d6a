/- Lists of lists: the laws' copies of them, their marks. -/
import Derived.Test.YtjfgmnfkkehgfaaLvFnIX
import Derived.Test.YtjfgmnfkkehgfaaLvFnLX
namespace Go.Proofs.LV
open Go
set_option linter.unusedVariables false
set_option linter.unusedSimpArgs false

abbrev NW (n : Nat) (xss : LL) : AV := .nw n 0 .f32 xss none
/-- the numbers of the first n rows -/
def totN (xss : LL) (n : Nat) : Nat := accN (fun j s => s + (xss.getD j []).length) n 0
def msR (xss : LL) (k : Int) (j : Nat) : List Nat := marksM (xss.getD j []).length (k + totN xss j)
def marksSS (xss : LL) (k : Int) : LL := tab xss.length (msR xss k)
def szSS (xss : LL) (i : Int) : Int := if i < xss.length + totN xss xss.length then -1 else i - (xss.length + totN xss xss.length)


-- FN laws_eqFloat32SS
/-- laws.eqFloat32SS: slots 27, results [.t 4]; calls [25:g_laws_eqFloat32S]; names [(a, 0), (b, 1), (a, 2), (b, 3), (i, 5)] -/
def ps_laws_eqFloat32SS : List Nat := [0, 1, 4, 5, 10, 14, 26]
def lv_laws_eqFloat32SS_L0 : List Nat := [0, 1, 5]
def b_laws_eqFloat32SS_L0 (g_laws_eqFloat32S : FuncId) : VCode :=
  (.seq
   (.seq
    (.region false [
     ⟨some 11, .mv, [.t 5], none⟩,
     ⟨some 12, .mv, [.t 0], none⟩,
     ⟨some 13, .len, [.t 12], none⟩,
     ⟨some 14, (.bin .lss), [.t 11, .t 13], none⟩])
    (.cond (.t 14)
     .skip
     (.exit 0)))
   (.seq
    (.block 1
     (.seq
      (.region true [
       ⟨some 17, .mv, [.t 0], none⟩,
       ⟨some 18, .mv, [.t 5], none⟩,
       ⟨some 19, .iaddr, [.t 17, .t 18], none⟩,
       ⟨some 20, .load, [.t 19], none⟩,
       ⟨some 21, .mv, [.t 1], none⟩,
       ⟨some 22, .mv, [.t 5], none⟩,
       ⟨some 23, .iaddr, [.t 21, .t 22], none⟩,
       ⟨some 24, .load, [.t 23], none⟩,
       ⟨some 25, (.call g_laws_eqFloat32S), [.t 20, .t 24], none⟩,
       ⟨some 26, .not, [.t 25], none⟩])
      (.cond (.t 26)
       (.seq
        (.region false [
         ⟨some 4, .mv, [.k (.b false)], none⟩])
        .ret)
       .skip)))
    (.region false [
     ⟨some 15, .mv, [.t 5], none⟩,
     ⟨some 16, (.bin .add), [.t 15, .k (.i .i64 1)], none⟩,
     ⟨some 5, .mv, [.t 16], none⟩])))

def b_laws_eqFloat32SS (g_laws_eqFloat32S : FuncId) : VCode :=
  (.seq
   (.region false [
    ⟨some 4, .mv, [.k (.b false)], none⟩])
   (.seq
    (.seq
     (.region false [
      ⟨some 6, .mv, [.t 0], none⟩,
      ⟨some 7, .len, [.t 6], none⟩,
      ⟨some 8, .mv, [.t 1], none⟩,
      ⟨some 9, .len, [.t 8], none⟩,
      ⟨some 10, (.bin .neq), [.t 7, .t 9], none⟩])
     (.cond (.t 10)
      (.seq
       (.region false [
        ⟨some 4, .mv, [.k (.b false)], none⟩])
       .ret)
      .skip))
    (.seq
     (.seq
      (.region false [
       ⟨some 5, .mv, [.k (.i .i64 0)], none⟩])
      (.block 0 (.loop (b_laws_eqFloat32SS_L0 g_laws_eqFloat32S))))
     (.seq
      (.region false [
       ⟨some 4, .mv, [.k (.b true)], none⟩])
      .ret))))

abbrev Is_laws_eqFloat32SS (P : Program) (g_f : FuncId) (g_laws_eqFloat32S : FuncId) : Prop := FnIs P g_f 27 [.t 4] (b_laws_eqFloat32SS g_laws_eqFloat32S)

abbrev C_laws_eqFloat32SS (P : Program) (g_f : FuncId) : Prop := ∀ (xss : LL) (yss : LL) (he : yss = xss) (hx : xss.length ≤ 4294967296) (hr : ∀ r ∈ xss, r.length ≤ 4294967296), VCall P g_f [PF [0] xss, PF [1] yss] (.b true)
def oc1_laws_eqFloat32SS (as : List AV) : T AV := match as with | [.sl _ _ (.ff _ xss), .sl _ _ (.ff _ yss)] => .leaf (.b true) | _ => .fail
def oc_laws_eqFloat32SS (xss : LL) (yss : LL) (d : Nat) (as : List AV) : T AV := match d with | 25 => oc1_laws_eqFloat32S as | _ => .fail
def h_laws_eqFloat32SS_L0 (xss : LL) (yss : LL) (i : Int) : Env := [AV.sl (Tag.par [0]) 0 (Cont.ff FloatKind.f32 xss), AV.sl (Tag.par [1]) 0 (Cont.ff FloatKind.f32 yss), .any, .any, .any, .i IntKind.i64 i] ++ anys 21

theorem q_laws_eqFloat32SS_L0 {VC : FuncId → List AV → AV → Prop} {g_laws_eqFloat32S : FuncId} (xss : LL) (yss : LL) (i : Int) {e_ : Ex} {σ_ : Env} (ht : T.ok (fun x_ => x_ = (e_, σ_)) (
      T.ite (decide (i < (↑(List.length xss) : Int)))
        (T.ob (0 ≤ i ∧ i < (↑(List.length xss) : Int))
          (T.ob (0 ≤ i ∧ i < (↑(List.length yss) : Int))
            (T.ob (VC g_laws_eqFloat32S [AV.sl (Tag.par [0]) 0 (Cont.f FloatKind.f32 (List.getD xss (Int.toNat i) [])), AV.sl (Tag.par [1]) 0 (Cont.f FloatKind.f32 (List.getD yss (Int.toNat i) []))] (AV.b true))
              (T.ite false (T.leaf (Ex.ret, anys 4 ++ AV.b false :: anys 22)) (T.leaf (Ex.normal, h_laws_eqFloat32SS_L0 xss yss (IntKind.wrap IntKind.i64 (i + 1))))))))
        (T.leaf (Ex.exit 0, h_laws_eqFloat32SS_L0 xss yss i)))) :
    Exec VC ps_laws_eqFloat32SS (b_laws_eqFloat32SS_L0 g_laws_eqFloat32S) (h_laws_eqFloat32SS_L0 xss yss i) e_ σ_ := evL_of (lv := lv_laws_eqFloat32SS_L0) (rs := [4]) (O := ⟨oc_laws_eqFloat32SS xss yss, fun _ _ => none⟩) (by kernel_rfl) ht

theorem q_laws_eqFloat32SS {P : Program} {g_f : FuncId} {g_laws_eqFloat32S : FuncId} (h_ : Is_laws_eqFloat32SS P g_f g_laws_eqFloat32S) (xss : LL) (yss : LL) (ht : T.ok (fun x_ => x_ = .b true) (
      T.ite ((↑(List.length xss) : Int) != (↑(List.length yss) : Int)) (T.leaf (AV.b false))
        (T.ob (Exec (VCall P) ps_laws_eqFloat32SS (VCode.block 0 (VCode.loop (b_laws_eqFloat32SS_L0 g_laws_eqFloat32S))) (h_laws_eqFloat32SS_L0 xss yss 0) Ex.normal (h_laws_eqFloat32SS_L0 xss yss (↑(List.length xss) : Int)))
          (T.leaf (AV.b true))))) :
    VCall P g_f [PF [0] xss, PF [1] yss] (.b true) := h_.call_of ps_laws_eqFloat32SS ⟨oc_laws_eqFloat32SS xss yss, fun id σ => match id with | 0 => some (lv_laws_eqFloat32SS_L0, .leaf (.normal, h_laws_eqFloat32SS_L0 xss yss xss.length)) | _ => none⟩ (by kernel_rfl) ht

-- END laws_eqFloat32SS

-- FN laws_markFloat32SS
/-- laws.markFloat32SS: slots 19, results [.t 4]; calls [17:g_laws_markFloat32S]; names [(a, 0), (k, 1), (a, 2), (k, 3), (i, 5)] -/
def ps_laws_markFloat32SS : List Nat := [0, 1, 4, 5, 9]
def lv_laws_markFloat32SS_L0 : List Nat := [0, 1, 5]
def b_laws_markFloat32SS_L0 (g_laws_markFloat32S : FuncId) : VCode :=
  (.seq
   (.seq
    (.region false [
     ⟨some 6, .mv, [.t 5], none⟩,
     ⟨some 7, .mv, [.t 0], none⟩,
     ⟨some 8, .len, [.t 7], none⟩,
     ⟨some 9, (.bin .lss), [.t 6, .t 8], none⟩])
    (.cond (.t 9)
     .skip
     (.exit 0)))
   (.seq
    (.block 1
     (.region false [
      ⟨some 12, .mv, [.t 0], none⟩,
      ⟨some 13, .mv, [.t 5], none⟩,
      ⟨some 14, .iaddr, [.t 12, .t 13], none⟩,
      ⟨some 15, .load, [.t 14], none⟩,
      ⟨some 16, .mv, [.t 1], none⟩,
      ⟨some 17, (.call g_laws_markFloat32S), [.t 15, .t 16], none⟩,
      ⟨some 1, .mv, [.t 17], none⟩]))
    (.region false [
     ⟨some 10, .mv, [.t 5], none⟩,
     ⟨some 11, (.bin .add), [.t 10, .k (.i .i64 1)], none⟩,
     ⟨some 5, .mv, [.t 11], none⟩])))

def b_laws_markFloat32SS (g_laws_markFloat32S : FuncId) : VCode :=
  (.seq
   (.region false [
    ⟨some 4, .mv, [.k (.i .i64 0)], none⟩])
   (.seq
    (.seq
     (.region false [
      ⟨some 5, .mv, [.k (.i .i64 0)], none⟩])
     (.block 0 (.loop (b_laws_markFloat32SS_L0 g_laws_markFloat32S))))
    (.seq
     (.region false [
      ⟨some 18, .mv, [.t 1], none⟩,
      ⟨some 4, .mv, [.t 18], none⟩])
     .ret)))

abbrev Is_laws_markFloat32SS (P : Program) (g_f : FuncId) (g_laws_markFloat32S : FuncId) : Prop := FnIs P g_f 19 [.t 4] (b_laws_markFloat32SS g_laws_markFloat32S)

abbrev C_laws_markFloat32SS (P : Program) (g_f : FuncId) : Prop := ∀ (xss : LL) (k : Int) (hk : 0 ≤ k ∧ k ≤ 16) (hx : totN xss xss.length ≤ 16777216) (hr : xss.length ≤ 16777216), VCall P g_f [NW HI xss, .i .i64 k] ((AV.M (.i .i64 (k + totN xss xss.length)) [NW HI (marksSS xss k), .i .i64 k]))
def oc1_laws_markFloat32SS (as : List AV) : T AV := match as with | [.sl _ _ (.ff _ xss), .i .i64 k] => .leaf ((AV.M (.i .i64 (k + totN xss xss.length)) [NW HI (marksSS xss k), .i .i64 k])) | _ => .fail
def oc_laws_markFloat32SS (xss : LL) (k : Int) (d : Nat) (as : List AV) : T AV := match d with | 17 => oc1_laws_markFloat32S as | _ => .fail
def h_laws_markFloat32SS_L0 (xss : LL) (k : Int) (a : LL) (k2 : Int) (i : Int) : Env := [.nw HI 0 FloatKind.f32 a none, .i IntKind.i64 k2, .any, .any, .any, .i IntKind.i64 i] ++ anys 13

theorem q_laws_markFloat32SS_L0 {VC : FuncId → List AV → AV → Prop} {g_laws_markFloat32S : FuncId} (xss : LL) (k : Int) (a : LL) (k2 : Int) (i : Int) {e_ : Ex} {σ_ : Env} (ht : T.ok (fun x_ => x_ = (e_, σ_)) (
      T.ite (decide (i < (↑(List.length a) : Int)))
        (T.ob (0 ≤ i ∧ i < (↑(List.length a) : Int))
          (T.ob
            (VC g_laws_markFloat32S [AV.sl (Tag.own 800000) 0 (Cont.f FloatKind.f32 (List.getD a (Int.toNat i) [])), AV.i IntKind.i64 k2]
                (AV.bx Tag.nil
                  [AV.i IntKind.i64 (k2 + (↑(List.length (List.getD a (Int.toNat i) [])) : Int)),
                    AV.tup [AV.sl (Tag.own 800000) 0 (Cont.f FloatKind.f32 (marksM (List.length (List.getD a (Int.toNat i) [])) k2)), AV.i IntKind.i64 k2]]) ∧
              (0 ≤ 0 + Int.toNat i → 0 + Int.toNat i - 0 < List.length a → List.length (List.getD a (0 + Int.toNat i - 0) []) = List.length (marksM (List.length (List.getD a (Int.toNat i) [])) k2)) ∧
                (0 ≤ 0 + Int.toNat i → 0 + Int.toNat i - 0 < List.length a → List.length (List.getD a (0 + Int.toNat i - 0) []) = List.length (marksM (List.length (List.getD a (Int.toNat i) [])) k2)) ∧
                  (0 + Int.toNat i = 0 + Int.toNat i → List.length (List.getD a (Int.toNat i) []) = List.length (marksM (List.length (List.getD a (Int.toNat i) [])) k2)) ∧ True)
            (T.leaf
              (Ex.normal,
                h_laws_markFloat32SS_L0 xss k (if 0 ≤ 0 + Int.toNat i then List.set a (0 + Int.toNat i - 0) (marksM (List.length (List.getD a (Int.toNat i) [])) k2) else a)
                  (k2 + (↑(List.length (List.getD a (Int.toNat i) [])) : Int)) (IntKind.wrap IntKind.i64 (i + 1))))))
        (T.leaf (Ex.exit 0, h_laws_markFloat32SS_L0 xss k a k2 i)))) :
    Exec VC ps_laws_markFloat32SS (b_laws_markFloat32SS_L0 g_laws_markFloat32S) (h_laws_markFloat32SS_L0 xss k a k2 i) e_ σ_ := evL_of (lv := lv_laws_markFloat32SS_L0) (rs := [4]) (O := ⟨oc_laws_markFloat32SS xss k, fun _ _ => none⟩) (by kernel_rfl) ht

theorem q_laws_markFloat32SS {P : Program} {g_f : FuncId} {g_laws_markFloat32S : FuncId} (h_ : Is_laws_markFloat32SS P g_f g_laws_markFloat32S) (xss : LL) (k : Int) (ht : T.ok (fun x_ => x_ = (.i .i64 (k + totN xss xss.length), [NW HI (marksSS xss k), .i .i64 k])) (
      T.ob
        (Exec (VCall P) ps_laws_markFloat32SS (VCode.block 0 (VCode.loop (b_laws_markFloat32SS_L0 g_laws_markFloat32S))) (h_laws_markFloat32SS_L0 xss k xss k 0) Ex.normal
          (h_laws_markFloat32SS_L0 xss k (marksSS xss k) (k + (↑(totN xss (List.length xss)) : Int)) (↑(List.length xss) : Int)))
        (T.ob (List.length xss = List.length (marksSS xss k) ∧ True) (T.leaf (AV.i IntKind.i64 (k + (↑(totN xss (List.length xss)) : Int)), [AV.nw HI 0 FloatKind.f32 (marksSS xss k) none, AV.i IntKind.i64 k]))))) :
    VCall P g_f [NW HI xss, .i .i64 k] (AV.M (.i .i64 (k + totN xss xss.length)) [NW HI (marksSS xss k), .i .i64 k]) := h_.callM_of ps_laws_markFloat32SS [0] ⟨oc_laws_markFloat32SS xss k, fun id σ => match id with | 0 => some (lv_laws_markFloat32SS_L0, .leaf (.normal, h_laws_markFloat32SS_L0 xss k (marksSS xss k) (k + totN xss xss.length) xss.length)) | _ => none⟩ (by kernel_rfl) ht

-- END laws_markFloat32SS

-- FN laws_heldFloat32SS
/-- laws.heldFloat32SS: slots 21, results [.t 4]; calls [17:g_laws_heldFloat32S]; names [(a, 0), (k, 1), (a, 2), (k, 3), (i, 5)] -/
def ps_laws_heldFloat32SS : List Nat := [0, 1, 4, 5, 9, 19]
def lv_laws_heldFloat32SS_L0 : List Nat := [0, 1, 5]
def b_laws_heldFloat32SS_L0 (g_laws_heldFloat32S : FuncId) : VCode :=
  (.seq
   (.seq
    (.region false [
     ⟨some 6, .mv, [.t 5], none⟩,
     ⟨some 7, .mv, [.t 0], none⟩,
     ⟨some 8, .len, [.t 7], none⟩,
     ⟨some 9, (.bin .lss), [.t 6, .t 8], none⟩])
    (.cond (.t 9)
     .skip
     (.exit 0)))
   (.seq
    (.block 1
     (.seq
      (.region false [
       ⟨some 12, .mv, [.t 0], none⟩,
       ⟨some 13, .mv, [.t 5], none⟩,
       ⟨some 14, .iaddr, [.t 12, .t 13], none⟩,
       ⟨some 15, .load, [.t 14], none⟩,
       ⟨some 16, .mv, [.t 1], none⟩,
       ⟨some 17, (.call g_laws_heldFloat32S), [.t 15, .t 16], none⟩,
       ⟨some 1, .mv, [.t 17], none⟩])
      (.seq
       (.region false [
        ⟨some 18, .mv, [.t 1], none⟩,
        ⟨some 19, (.bin .lss), [.t 18, .k (.i .i64 0)], none⟩])
       (.cond (.t 19)
        (.seq
         (.region false [
          ⟨some 4, .mv, [.k (.i .i64 (-1))], none⟩])
         .ret)
        .skip))))
    (.region false [
     ⟨some 10, .mv, [.t 5], none⟩,
     ⟨some 11, (.bin .add), [.t 10, .k (.i .i64 1)], none⟩,
     ⟨some 5, .mv, [.t 11], none⟩])))

def b_laws_heldFloat32SS (g_laws_heldFloat32S : FuncId) : VCode :=
  (.seq
   (.region false [
    ⟨some 4, .mv, [.k (.i .i64 0)], none⟩])
   (.seq
    (.seq
     (.region false [
      ⟨some 5, .mv, [.k (.i .i64 0)], none⟩])
     (.block 0 (.loop (b_laws_heldFloat32SS_L0 g_laws_heldFloat32S))))
    (.seq
     (.region false [
      ⟨some 20, .mv, [.t 1], none⟩,
      ⟨some 4, .mv, [.t 20], none⟩])
     .ret)))

abbrev Is_laws_heldFloat32SS (P : Program) (g_f : FuncId) (g_laws_heldFloat32S : FuncId) : Prop := FnIs P g_f 21 [.t 4] (b_laws_heldFloat32SS g_laws_heldFloat32S)

abbrev C_laws_heldFloat32SS (P : Program) (g_f : FuncId) : Prop := ∀ (xss : LL) (yss : LL) (k : Int) (he : yss = marksSS xss k) (hk : 0 ≤ k ∧ k ≤ 16) (hx : totN xss xss.length ≤ 16777216) (hr : xss.length ≤ 16777216), VCall P g_f [PF [0] yss, .i .i64 k] (.i .i64 (k + totN yss yss.length))
def oc1_laws_heldFloat32SS (as : List AV) : T AV := match as with | [.sl _ _ (.ff _ yss), .i .i64 k] => .leaf (.i .i64 (k + totN yss yss.length)) | _ => .fail
def oc_laws_heldFloat32SS (xss : LL) (yss : LL) (k : Int) (d : Nat) (as : List AV) : T AV := match d with | 17 => oc1_laws_heldFloat32S as | _ => .fail
def h_laws_heldFloat32SS_L0 (xss : LL) (yss : LL) (k : Int) (k2 : Int) (i : Int) : Env := [AV.sl (Tag.par [0]) 0 (Cont.ff FloatKind.f32 yss), .i IntKind.i64 k2, .any, .any, .any, .i IntKind.i64 i] ++ anys 15

theorem q_laws_heldFloat32SS_L0 {VC : FuncId → List AV → AV → Prop} {g_laws_heldFloat32S : FuncId} (xss : LL) (yss : LL) (k : Int) (k2 : Int) (i : Int) {e_ : Ex} {σ_ : Env} (ht : T.ok (fun x_ => x_ = (e_, σ_)) (
      T.ite (decide (i < (↑(List.length yss) : Int)))
        (T.ob (0 ≤ i ∧ i < (↑(List.length yss) : Int))
          (T.ob (VC g_laws_heldFloat32S [AV.sl (Tag.par [0]) 0 (Cont.f FloatKind.f32 (List.getD yss (Int.toNat i) [])), AV.i IntKind.i64 k2] (AV.i IntKind.i64 (k2 + (↑(List.length (List.getD yss (Int.toNat i) [])) : Int))))
            (T.ite (decide (k2 + (↑(List.length (List.getD yss (Int.toNat i) [])) : Int) < 0)) (T.leaf (Ex.ret, anys 4 ++ AV.i IntKind.i64 (-1) :: anys 16))
              (T.leaf (Ex.normal, h_laws_heldFloat32SS_L0 xss yss k (k2 + (↑(List.length (List.getD yss (Int.toNat i) [])) : Int)) (IntKind.wrap IntKind.i64 (i + 1)))))))
        (T.leaf (Ex.exit 0, h_laws_heldFloat32SS_L0 xss yss k k2 i)))) :
    Exec VC ps_laws_heldFloat32SS (b_laws_heldFloat32SS_L0 g_laws_heldFloat32S) (h_laws_heldFloat32SS_L0 xss yss k k2 i) e_ σ_ := evL_of (lv := lv_laws_heldFloat32SS_L0) (rs := [4]) (O := ⟨oc_laws_heldFloat32SS xss yss k, fun _ _ => none⟩) (by kernel_rfl) ht

theorem q_laws_heldFloat32SS {P : Program} {g_f : FuncId} {g_laws_heldFloat32S : FuncId} (h_ : Is_laws_heldFloat32SS P g_f g_laws_heldFloat32S) (xss : LL) (yss : LL) (k : Int) (ht : T.ok (fun x_ => x_ = .i .i64 (k + totN yss yss.length)) (
      T.ob
        (Exec (VCall P) ps_laws_heldFloat32SS (VCode.block 0 (VCode.loop (b_laws_heldFloat32SS_L0 g_laws_heldFloat32S))) (h_laws_heldFloat32SS_L0 xss yss k k 0) Ex.normal
          (h_laws_heldFloat32SS_L0 xss yss k (k + (↑(totN yss (List.length yss)) : Int)) (↑(List.length yss) : Int)))
        (T.leaf (AV.i IntKind.i64 (k + (↑(totN yss (List.length yss)) : Int)))))) :
    VCall P g_f [PF [0] yss, .i .i64 k] (.i .i64 (k + totN yss yss.length)) := h_.call_of ps_laws_heldFloat32SS ⟨oc_laws_heldFloat32SS xss yss k, fun id σ => match id with | 0 => some (lv_laws_heldFloat32SS_L0, .leaf (.normal, h_laws_heldFloat32SS_L0 xss yss k (k + totN yss yss.length) yss.length)) | _ => none⟩ (by kernel_rfl) ht

-- END laws_heldFloat32SS


theorem totN_succ (xss : LL) (n : Nat) : totN xss (n + 1) = totN xss n + (xss.getD n []).length := rfl
theorem totN_le (xss : LL) : ∀ {n m : Nat}, n ≤ m → totN xss n ≤ totN xss m := by
  intro n m h
  induction h with
  | refl => exact Nat.le_refl _
  | step _ ih => rw [Nat.succ_eq_add_one, totN_succ]; omega
theorem row_tot (xss : LL) (i : Nat) (h : i < xss.length) : totN xss i + (xss.getD i []).length ≤ totN xss xss.length := by
  rw [← totN_succ]; exact totN_le xss h
theorem row_mem (xss : LL) (i : Nat) (h : i < xss.length) : xss.getD i [] ∈ xss := by
  simp [List.getD, h]
theorem marksSS_len (xss : LL) (k : Int) : (marksSS xss k).length = xss.length := tab_len _ _
theorem marksSS_get (xss : LL) (k : Int) (i : Nat) (h : i < xss.length) : (marksSS xss k).getD i [] = marksM (xss.getD i []).length (k + totN xss i) := tab_get _ _ _ _ h

theorem k_laws_eqFloat32SS {P : Program} {f g : FuncId} (h : Is_laws_eqFloat32SS P f g) (c1 : C_laws_eqFloat32S P g) : C_laws_eqFloat32SS P f := by
  rintro xss yss rfl hx hr
  refine q_laws_eqFloat32SS h _ _ ⟨fun h => absurd h (by simp), fun _ => ⟨?_, fun _ => rfl⟩⟩
  refine for_up (e := .exit 0) yss.length (fun i => h_laws_eqFloat32SS_L0 yss yss i) rfl (fun i hi => ?_) ?_
  · refine q_laws_eqFloat32SS_L0 _ _ _ ⟨fun _ => ⟨by omega, fun _ => ⟨by omega, fun _ => ⟨?_, fun _ => ⟨fun h => Bool.noConfusion h, fun _ => ?_⟩⟩⟩⟩, fun h => absurd h (by simp; omega)⟩
    · rw [Int.toNat_natCast]; exact c1 _ _ rfl (hr _ (row_mem _ _ hi))
    show _ = _
    rw [wrap64_id (by omega) (by omega)]
    rfl
  · exact q_laws_eqFloat32SS_L0 _ _ _ ⟨fun h => absurd h (by simp), fun _ => rfl⟩

theorem k_laws_markFloat32SS {P : Program} {f g : FuncId} (h : Is_laws_markFloat32SS P f g) (c1 : C_laws_markFloat32S P g) : C_laws_markFloat32SS P f := by
  intro xss k hk hx hr
  refine q_laws_markFloat32SS h xss k ⟨?_, fun _ => ⟨⟨(marksSS_len _ _).symm, trivial⟩, fun _ => rfl⟩⟩
  refine for_up (e := .exit 0) xss.length (fun i => h_laws_markFloat32SS_L0 xss k ((marksSS xss k).take i ++ xss.drop i) (k + totN xss i) i) (by simp [totN, accN]) (fun i hi => ?_) ?_
  · have ht := row_tot xss i hi
    have hl : ((marksSS xss k).take i ++ xss.drop i).length = xss.length := by simp [marksSS_len]; omega
    have hg : ((marksSS xss k).take i ++ xss.drop i).getD i [] = xss.getD i [] := by
      have : ((marksSS xss k).take i).length = i := by simp [marksSS_len]; omega
      simp only [List.getD]
      rw [List.getElem?_append_right (by omega), this, Nat.sub_self, List.getElem?_drop, Nat.add_zero]
    have hs : ((marksSS xss k).take i ++ xss.drop i).set i (marksM (xss.getD i []).length (k + totN xss i)) = (marksSS xss k).take (i + 1) ++ xss.drop (i + 1) := by
      rw [List.drop_eq_getElem_cons hi, ← marksSS_get xss k i hi]
      exact take_set_next _ _ _ (by rw [marksSS_len]; exact hi) _ _
    have hn : ((i : Int)).toNat = i := Int.toNat_natCast i
    refine q_laws_markFloat32SS_L0 _ _ _ _ _ ?_
    simp only [hn, hg, hl, Nat.zero_add, Nat.sub_zero, Nat.zero_le, if_true, hs]
    refine ⟨fun _ => ⟨by omega, fun _ => ⟨⟨c1 _ _ (by omega) (by omega), fun _ _ => ?_, fun _ _ => ?_, fun _ => ?_, trivial⟩, fun _ => ?_⟩⟩, fun h => absurd h (by simp; omega)⟩
    · rw [marks_len]
    · rw [marks_len]
    · rw [marks_len]
    show _ = _
    rw [wrap64_id (by omega) (by omega), totN_succ]
    simp only [Int.natCast_add, Int.add_assoc]; rfl
  · refine q_laws_markFloat32SS_L0 _ _ _ _ _ ⟨fun h => absurd h (by simp [marksSS_len]), fun _ => ?_⟩
    have : (marksSS xss k).take xss.length = marksSS xss k := List.take_of_length_le (by rw [marksSS_len]; exact Nat.le_refl _)
    simp [T.ok, this]

theorem totN_marks (xss : LL) (k : Int) : ∀ {i : Nat}, i ≤ xss.length → totN (marksSS xss k) i = totN xss i := by
  intro i
  induction i with
  | zero => intro _; rfl
  | succ i ih => intro h; rw [totN_succ, totN_succ, ih (by omega), marksSS_get _ _ _ (by omega), marks_len]
theorem k_laws_heldFloat32SS {P : Program} {f g : FuncId} (h : Is_laws_heldFloat32SS P f g) (c1 : C_laws_heldFloat32S P g) : C_laws_heldFloat32SS P f := by
  rintro xss yss k rfl hk hx hr
  have hl := marksSS_len xss k
  refine q_laws_heldFloat32SS h xss _ k ⟨?_, fun _ => rfl⟩
  rw [hl, totN_marks xss k (Nat.le_refl _)]
  refine for_up (e := .exit 0) xss.length (fun i => h_laws_heldFloat32SS_L0 xss (marksSS xss k) k (k + totN xss i) i) (by simp [totN, accN]) (fun i hi => ?_) ?_
  · have ht := row_tot xss i hi
    refine q_laws_heldFloat32SS_L0 _ _ _ _ _ ?_
    rw [hl, Int.toNat_natCast, marksSS_get _ _ _ hi]
    have a1 := c1 _ (k + totN xss i) (xss.getD i []).length rfl (by omega) (by omega)
    rw [marks_len] at a1 ⊢
    refine ⟨fun _ => ⟨by omega, fun _ => ⟨a1, fun _ => ⟨fun h => ?_, fun _ => ?_⟩⟩⟩, fun h => absurd h (by simp; omega)⟩
    · simp at h; omega
    show _ = _
    rw [wrap64_id (by omega) (by omega), totN_succ]
    simp only [Int.natCast_add, Int.add_assoc]; rfl
  · refine q_laws_heldFloat32SS_L0 _ _ _ _ _ ⟨fun h => absurd h (by simp [hl]), fun _ => ?_⟩
    simp [T.ok, hl]

end Go.Proofs.LV
