/- Likenesses of a series with itself, guesses ahead, means of series. -/
import Derived.Test.YtdjjpckpcfkgiaaLvFnI
namespace Go.Proofs.LV
open Go
set_option linter.unusedVariables false
set_option linter.unusedSimpArgs false

abbrev LL := List (List Nat)
abbrev PF (p : List Nat) (xs : LL) : AV := .sl (.par p) 0 (.ff .f32 xs)
/-- the sum of products with those a lag later -/
def delM (a : List Nat) (lag : Nat) : Nat := accN (fun i s => fadd .f32 s (fmul .f32 (a.getD i 0) (a.getD (i + lag) 0))) (a.length - lag) 0
def offM (a : List Nat) : List Nat := lessOneM a (meanM a)
def likesM (a : List Nat) (most : Nat) : List Nat := tab (most + 1) fun lag => fdiv .f32 (delM (offM a) lag) (delM (offM a) 0)
def likesOk (a : List Nat) (most : Int) : Bool := seriesM a && (inM most 0 16 && (decide (most < a.length) && (fgt .f32 (delM (offM a) 0) 0 && finAllM (likesM a most.toNat))))
def likesOut (a : List Nat) (most : Int) : List Nat := if likesOk a most = true then likesM a most.toNat else []

-- FN impl_isMost
/-- impl.isMost: slots 15, results [.t 4]; calls [6:g_impl_IsSeries, 13:g_impl_within]; names [(a, 0), (most, 1), (a, 2), (most, 3)] -/
def ps_impl_isMost : List Nat := [0, 1, 4]
def b_impl_isMost (g_impl_IsSeries g_impl_within : FuncId) : VCode :=
  (.seq
   (.region false [
    ⟨some 4, .mv, [.k (.b false)], none⟩])
   (.seq
    (.region false [
     ⟨some 5, .mv, [.t 0], none⟩,
     ⟨some 6, (.call g_impl_IsSeries), [.t 5], none⟩,
     ⟨some 7, .mv, [.t 6], none⟩,
     ⟨some 8, .mv, [.t 1], some (7, true)⟩,
     ⟨some 9, .mv, [.t 0], some (7, true)⟩,
     ⟨some 10, .len, [.t 9], some (7, true)⟩,
     ⟨some 11, (.bin .sub), [.t 10, .k (.i .i64 1)], some (7, true)⟩,
     ⟨some 12, .min, [.k (.i .i64 16), .t 11], some (7, true)⟩,
     ⟨some 13, (.call g_impl_within), [.t 8, .k (.i .i64 0), .t 12], some (7, true)⟩,
     ⟨some 14, .pick, [.t 7, .t 13, .k (.b false)], none⟩,
     ⟨some 4, .mv, [.t 14], none⟩])
    .ret))

abbrev Is_impl_isMost (P : Program) (g_f : FuncId) (g_impl_IsSeries g_impl_within : FuncId) : Prop := FnIs P g_f 15 [.t 4] (b_impl_isMost g_impl_IsSeries g_impl_within)

abbrev C_impl_isMost (P : Program) (g_f : FuncId) : Prop := ∀ (a : List Nat) (most : Int) (hx : a.length ≤ maxLen), VCall P g_f [PS [0] .f32 a, .i .i64 most] (.b (seriesM a && (inM most 0 16 && decide (most < a.length))))
def oc1_impl_isMost (as : List AV) : T AV := match as with | [.sl _ _ (.f .f32 a), .i .i64 most] => .leaf (.b (seriesM a && (inM most 0 16 && decide (most < a.length)))) | _ => .fail
def oc_impl_isMost (a : List Nat) (most : Int) (d : Nat) (as : List AV) : T AV := match d with | 6 => oc1_impl_IsSeries as | 13 => oc1_impl_within as | _ => .fail



theorem q_impl_isMost {P : Program} {g_f : FuncId} {g_impl_IsSeries g_impl_within : FuncId} (h_ : Is_impl_isMost P g_f g_impl_IsSeries g_impl_within) (a : List Nat) (most : Int) (ht : T.ok (fun x_ => x_ = .b (seriesM a && (inM most 0 16 && decide (most < a.length)))) (
      T.ob ((VCall P) g_impl_IsSeries [AV.sl (Tag.par [0]) 0 (Cont.f FloatKind.f32 a)] (AV.b (seriesM a)))
        (T.ite (seriesM a)
          (T.ob
            ((VCall P) g_impl_within
              [AV.i IntKind.i64 most, AV.i IntKind.i64 0, AV.i IntKind.i64 (bif decide (IntKind.wrap IntKind.i64 ((↑(List.length a) : Int) - 1) < 16) then IntKind.wrap IntKind.i64 ((↑(List.length a) : Int) - 1) else 16)]
              (AV.b (inM most 0 (bif decide (IntKind.wrap IntKind.i64 ((↑(List.length a) : Int) - 1) < 16) then IntKind.wrap IntKind.i64 ((↑(List.length a) : Int) - 1) else 16))))
            (T.leaf (AV.b (inM most 0 (bif decide (IntKind.wrap IntKind.i64 ((↑(List.length a) : Int) - 1) < 16) then IntKind.wrap IntKind.i64 ((↑(List.length a) : Int) - 1) else 16)))))
          (T.leaf (AV.b false))))) :
    VCall P g_f [PS [0] .f32 a, .i .i64 most] (.b (seriesM a && (inM most 0 16 && decide (most < a.length)))) := h_.call_of ps_impl_isMost ⟨oc_impl_isMost a most, fun _ _ => none⟩ (by kernel_rfl) ht

-- END impl_isMost



-- FN spec_l03Off
/-- spec.l03Off: slots 25, results [.t 2]; calls [7:g_spec_l03Mean]; names [(a, 0), (a, 1), (mean, 3), (out, 4), (i, 5)] -/
def ps_spec_l03Off : List Nat := [0, 2, 3, 4, 5, 10, 11, 12]
def lv_spec_l03Off_L0 : List Nat := [0, 3, 4, 10, 11]
def b_spec_l03Off_L0 (g_spec_l03Mean : FuncId) : VCode :=
  (.seq
   (.region false [
    ⟨some 12, (.bin .lss), [.t 11, .t 10], none⟩])
   (.seq
    (.cond (.t 12)
     .skip
     (.exit 0))
    (.seq
     (.block 1
      (.seq
       (.region false [
        ⟨some 13, .mv, [.t 11], none⟩,
        ⟨some 5, .mv, [.t 13], none⟩])
       (.region false [
        ⟨some 14, .mv, [.t 4], none⟩,
        ⟨some 15, .mv, [.t 0], none⟩,
        ⟨some 16, .mv, [.t 5], none⟩,
        ⟨some 17, .iaddr, [.t 15, .t 16], none⟩,
        ⟨some 18, .load, [.t 17], none⟩,
        ⟨some 19, .mv, [.t 3], none⟩,
        ⟨some 20, (.bin .sub), [.t 18, .t 19], none⟩,
        ⟨some 21, (.lit true (.f .f32 [])), [.t 20], none⟩,
        ⟨some 22, .app, [.t 14, .t 21], none⟩,
        ⟨some 4, .mv, [.t 22], none⟩])))
     (.region false [
      ⟨some 23, (.bin .add), [.t 11, .k (.i .i64 1)], none⟩,
      ⟨some 11, .mv, [.t 23], none⟩]))))

def b_spec_l03Off (g_spec_l03Mean : FuncId) : VCode :=
  (.seq
   (.region false [
    ⟨some 2, (.nilsl (.f .f32 [])), [], none⟩])
   (.seq
    (.region false [
     ⟨some 6, .mv, [.t 0], none⟩,
     ⟨some 7, (.call g_spec_l03Mean), [.t 6], none⟩,
     ⟨some 3, .mv, [.t 7], none⟩])
    (.seq
     (.region false [
      ⟨some 8, (.lit true (.f .f32 [])), [], none⟩,
      ⟨some 4, .mv, [.t 8], none⟩])
     (.seq
      (.seq
       (.region false [
        ⟨some 9, .mv, [.t 0], none⟩,
        ⟨some 10, .len, [.t 9], none⟩,
        ⟨some 11, .mv, [.k (.i .i64 0)], none⟩])
       (.block 0 (.loop (b_spec_l03Off_L0 g_spec_l03Mean))))
      (.seq
       (.region false [
        ⟨some 24, .mv, [.t 4], none⟩,
        ⟨some 2, .mv, [.t 24], none⟩])
       .ret)))))

abbrev Is_spec_l03Off (P : Program) (g_f : FuncId) (g_spec_l03Mean : FuncId) : Prop := FnIs P g_f 25 [.t 2] (b_spec_l03Off g_spec_l03Mean)

abbrev C_spec_l03Off (P : Program) (g_f : FuncId) : Prop := ∀ (a : List Nat) (hx : a.length ≤ 96), VCall P g_f [PS [0] .f32 a] (OS 0 .f32 (offM a))
def oc1_spec_l03Off (as : List AV) : T AV := match as with | [.sl _ _ (.f .f32 a)] => .leaf (OS 0 .f32 (offM a)) | _ => .fail
def oc_spec_l03Off (a : List Nat) (d : Nat) (as : List AV) : T AV := match d with | 7 => oc1_spec_l03Mean as | _ => .fail
def h_spec_l03Off_L0 (a : List Nat) (out : List Nat) (v11 : Int) : Env := [AV.sl (Tag.par [0]) 0 (Cont.f FloatKind.f32 a), .any, .any, AV.f FloatKind.f32 (meanM a), .sl (Tag.own 64) 0 (.f FloatKind.f32 out)] ++ anys 5 ++ [AV.i IntKind.i64 (↑(List.length a) : Int), .i IntKind.i64 v11] ++ anys 13

theorem q_spec_l03Off_L0 {VC : FuncId → List AV → AV → Prop} {g_spec_l03Mean : FuncId} (a : List Nat) (out : List Nat) (v11 : Int) {e_ : Ex} {σ_ : Env} (ht : T.ok (fun x_ => x_ = (e_, σ_)) (
      T.ite (decide (v11 < (↑(List.length a) : Int)))
        (T.ob (0 ≤ v11 ∧ v11 < (↑(List.length a) : Int))
          (T.ob (List.length out + List.length [fsub FloatKind.f32 (List.getD a (Int.toNat v11) 0) (meanM a)] ≤ 4294967296)
            (T.leaf (Ex.normal, h_spec_l03Off_L0 a (out ++ [fsub FloatKind.f32 (List.getD a (Int.toNat v11) 0) (meanM a)]) (IntKind.wrap IntKind.i64 (v11 + 1))))))
        (T.leaf (Ex.exit 0, h_spec_l03Off_L0 a out v11)))) :
    Exec VC ps_spec_l03Off (b_spec_l03Off_L0 g_spec_l03Mean) (h_spec_l03Off_L0 a out v11) e_ σ_ := evL_of (lv := lv_spec_l03Off_L0) (rs := [2]) (O := ⟨oc_spec_l03Off a, fun _ _ => none⟩) (by kernel_rfl) ht

theorem q_spec_l03Off {P : Program} {g_f : FuncId} {g_spec_l03Mean : FuncId} (h_ : Is_spec_l03Off P g_f g_spec_l03Mean) (a : List Nat) (ht : T.ok (fun x_ => x_ = OS 0 .f32 (offM a)) (
      T.ob ((VCall P) g_spec_l03Mean [AV.sl (Tag.par [0]) 0 (Cont.f FloatKind.f32 a)] (AV.f FloatKind.f32 (meanM a)))
        (T.ob (Exec (VCall P) ps_spec_l03Off (VCode.block 0 (VCode.loop (b_spec_l03Off_L0 g_spec_l03Mean))) (h_spec_l03Off_L0 a [] 0) Ex.normal (h_spec_l03Off_L0 a (offM a) (↑(List.length a) : Int)))
          (T.leaf (AV.sl (Tag.own 0) 0 (Cont.f FloatKind.f32 (offM a))))))) :
    VCall P g_f [PS [0] .f32 a] (OS 0 .f32 (offM a)) := h_.call_of ps_spec_l03Off ⟨oc_spec_l03Off a, fun id σ => match id with | 0 => some (lv_spec_l03Off_L0, .leaf (.normal, h_spec_l03Off_L0 a (offM a) a.length)) | _ => none⟩ (by kernel_rfl) ht

-- END spec_l03Off

/-- the sum of products with another's numbers a lag later -/
def cdelM (a b : List Nat) (lag : Int) : Nat := accN (fun i s => if 0 ≤ (i : Int) + lag ∧ (i : Int) + lag < b.length then fadd .f32 s (fmul .f32 (a.getD i 0) (b.getD ((i : Int) + lag).toNat 0)) else s) a.length 0

-- FN spec_l03Delayed
/-- spec.l03Delayed: slots 41, results [.t 6]; calls []; names [(a, 0), (b, 1), (lag, 2), (a, 3), (b, 4), (lag, 5), (sum, 7), (i, 8)] -/
def ps_spec_l03Delayed : List Nat := [0, 1, 2, 6, 7, 8, 10, 11, 12, 25]
def lv_spec_l03Delayed_L0 : List Nat := [0, 1, 2, 7, 10, 11]
def b_spec_l03Delayed_L0 : VCode :=
  (.seq
   (.region false [
    ⟨some 12, (.bin .lss), [.t 11, .t 10], none⟩])
   (.seq
    (.cond (.t 12)
     .skip
     (.exit 0))
    (.seq
     (.block 1
      (.seq
       (.region false [
        ⟨some 13, .mv, [.t 11], none⟩,
        ⟨some 8, .mv, [.t 13], none⟩])
       (.seq
        (.region false [
         ⟨some 14, .mv, [.t 8], none⟩,
         ⟨some 15, .mv, [.t 2], none⟩,
         ⟨some 16, (.bin .add), [.t 14, .t 15], none⟩,
         ⟨some 17, (.bin .geq), [.t 16, .k (.i .i64 0)], none⟩,
         ⟨some 18, .mv, [.t 17], none⟩,
         ⟨some 19, .mv, [.t 8], some (18, true)⟩,
         ⟨some 20, .mv, [.t 2], some (18, true)⟩,
         ⟨some 21, (.bin .add), [.t 19, .t 20], some (18, true)⟩,
         ⟨some 22, .mv, [.t 1], some (18, true)⟩,
         ⟨some 23, .len, [.t 22], some (18, true)⟩,
         ⟨some 24, (.bin .lss), [.t 21, .t 23], some (18, true)⟩,
         ⟨some 25, .pick, [.t 18, .t 24, .k (.b false)], none⟩])
        (.cond (.t 25)
         (.region true [
          ⟨some 26, .mv, [.t 7], none⟩,
          ⟨some 27, .mv, [.t 0], none⟩,
          ⟨some 28, .mv, [.t 8], none⟩,
          ⟨some 29, .iaddr, [.t 27, .t 28], none⟩,
          ⟨some 30, .load, [.t 29], none⟩,
          ⟨some 31, .mv, [.t 1], none⟩,
          ⟨some 32, .mv, [.t 8], none⟩,
          ⟨some 33, .mv, [.t 2], none⟩,
          ⟨some 34, (.bin .add), [.t 32, .t 33], none⟩,
          ⟨some 35, .iaddr, [.t 31, .t 34], none⟩,
          ⟨some 36, .load, [.t 35], none⟩,
          ⟨some 37, (.bin .mul), [.t 30, .t 36], none⟩,
          ⟨some 38, (.bin .add), [.t 26, .t 37], none⟩,
          ⟨some 7, .mv, [.t 38], none⟩])
         .skip))))
     (.region false [
      ⟨some 39, (.bin .add), [.t 11, .k (.i .i64 1)], none⟩,
      ⟨some 11, .mv, [.t 39], none⟩]))))

def b_spec_l03Delayed : VCode :=
  (.seq
   (.region false [
    ⟨some 6, .mv, [.k (.f .f32 0)], none⟩])
   (.seq
    (.region false [
     ⟨some 7, .mv, [.k (.f .f32 0)], none⟩])
    (.seq
     (.seq
      (.region false [
       ⟨some 9, .mv, [.t 0], none⟩,
       ⟨some 10, .len, [.t 9], none⟩,
       ⟨some 11, .mv, [.k (.i .i64 0)], none⟩])
      (.block 0 (.loop b_spec_l03Delayed_L0)))
     (.seq
      (.region false [
       ⟨some 40, .mv, [.t 7], none⟩,
       ⟨some 6, .mv, [.t 40], none⟩])
      .ret))))

abbrev Is_spec_l03Delayed (P : Program) (g_f : FuncId) : Prop := FnIs P g_f 41 [.t 6] (b_spec_l03Delayed)

abbrev C_spec_l03Delayed (P : Program) (g_f : FuncId) : Prop := ∀ (a : List Nat) (b : List Nat) (lag : Int) (hl : -96 ≤ lag ∧ lag ≤ 96) (hx : a.length ≤ 96) (hy : b.length ≤ 96), VCall P g_f [PS [0] .f32 a, PS [1] .f32 b, .i .i64 lag] (.f .f32 (cdelM a b lag))
def oc1_spec_l03Delayed (as : List AV) : T AV := match as with | [.sl _ _ (.f .f32 a), .sl _ _ (.f .f32 b), .i .i64 lag] => .leaf (.f .f32 (cdelM a b lag)) | _ => .fail
def h_spec_l03Delayed_L0 (a : List Nat) (b : List Nat) (lag : Int) (sum : Nat) (v11 : Int) : Env := [AV.sl (Tag.par [0]) 0 (Cont.f FloatKind.f32 a), AV.sl (Tag.par [1]) 0 (Cont.f FloatKind.f32 b), AV.i IntKind.i64 lag] ++ anys 4 ++ [.f FloatKind.f32 sum, .any, .any, AV.i IntKind.i64 (↑(List.length a) : Int), .i IntKind.i64 v11] ++ anys 29

theorem q_spec_l03Delayed_L0 {VC : FuncId → List AV → AV → Prop} (a : List Nat) (b : List Nat) (lag : Int) (sum : Nat) (v11 : Int) {e_ : Ex} {σ_ : Env} (ht : T.ok (fun x_ => x_ = (e_, σ_)) (
      T.ite (decide (v11 < (↑(List.length a) : Int)))
        (T.ite (decide (IntKind.wrap IntKind.i64 (v11 + lag) ≥ 0))
          (T.ite (decide (IntKind.wrap IntKind.i64 (v11 + lag) < (↑(List.length b) : Int)))
            (T.ob (0 ≤ v11 ∧ v11 < (↑(List.length a) : Int))
              (T.ob (0 ≤ IntKind.wrap IntKind.i64 (v11 + lag) ∧ IntKind.wrap IntKind.i64 (v11 + lag) < (↑(List.length b) : Int))
                (T.leaf
                  (Ex.normal,
                    h_spec_l03Delayed_L0 a b lag (fadd FloatKind.f32 sum (fmul FloatKind.f32 (List.getD a (Int.toNat v11) 0) (List.getD b (Int.toNat (IntKind.wrap IntKind.i64 (v11 + lag))) 0)))
                      (IntKind.wrap IntKind.i64 (v11 + 1))))))
            (T.leaf (Ex.normal, h_spec_l03Delayed_L0 a b lag sum (IntKind.wrap IntKind.i64 (v11 + 1)))))
          (T.leaf (Ex.normal, h_spec_l03Delayed_L0 a b lag sum (IntKind.wrap IntKind.i64 (v11 + 1)))))
        (T.leaf (Ex.exit 0, h_spec_l03Delayed_L0 a b lag sum v11)))) :
    Exec VC ps_spec_l03Delayed (b_spec_l03Delayed_L0) (h_spec_l03Delayed_L0 a b lag sum v11) e_ σ_ := evL_of (lv := lv_spec_l03Delayed_L0) (rs := [6]) (O := ⟨fun _ _ => .fail, fun _ _ => none⟩) (by kernel_rfl) ht

theorem q_spec_l03Delayed {P : Program} {g_f : FuncId} (h_ : Is_spec_l03Delayed P g_f) (a : List Nat) (b : List Nat) (lag : Int) (ht : T.ok (fun x_ => x_ = .f .f32 (cdelM a b lag)) (
      T.ob (Exec (VCall P) ps_spec_l03Delayed (VCode.block 0 (VCode.loop b_spec_l03Delayed_L0)) (h_spec_l03Delayed_L0 a b lag 0 0) Ex.normal (h_spec_l03Delayed_L0 a b lag (cdelM a b lag) (↑(List.length a) : Int)))
        (T.leaf (AV.f FloatKind.f32 (cdelM a b lag))))) :
    VCall P g_f [PS [0] .f32 a, PS [1] .f32 b, .i .i64 lag] (.f .f32 (cdelM a b lag)) := h_.call_of ps_spec_l03Delayed ⟨fun _ _ => .fail, fun id σ => match id with | 0 => some (lv_spec_l03Delayed_L0, .leaf (.normal, h_spec_l03Delayed_L0 a b lag (cdelM a b lag) a.length)) | _ => none⟩ (by kernel_rfl) ht

-- END spec_l03Delayed


def lsSum (n : Nat) (r : List Nat) : Nat := accN (fun j s => fadd .f32 s (fdiv .f32 (fmul .f32 (r.getD (j + 1) 0) (r.getD (j + 1) 0)) (fofi .f32 (n - (j + 1) : Nat)))) (r.length - 1) 0
def lsM (a r : List Nat) : Nat := fmul .f32 (fmul .f32 (fofi .f32 a.length) (fadd .f32 (fofi .f32 a.length) 1073741824)) (lsSum a.length r)
def lsOk (a : List Nat) (most : Int) : Bool := likesOk a most && finM (lsM a (likesM a most.toNat))



/-! ### guesses ahead -/
def adAt (d : Nat) (n : Nat) : Nat × Nat := accN (fun _ a => (fadd .f32 a.1 (fmul .f32 a.2 d), fmul .f32 a.2 d)) n (d, d)
def adM (l s : Nat) (xs : List Nat) (t : Int) (d : Nat) (n : Nat) : List Nat := tab n fun k => fadd .f32 (fadd .f32 l (fmul .f32 (adAt d k).1 s)) (xs.getD ((t.toNat + k) % xs.length) 0)
def adOk (l s : Nat) (xs : List Nat) (t : Int) (a b c d : Nat) (n : Int) : Bool := validStateM l s xs t && (sharesM a b c d && (inM n 1 32 && finAllM (adM l s xs t d n.toNat)))




/-! ### means of series -/
def meanOk (xs : List Nat) : Bool := seriesM xs && finM (meanM xs)



def msFin (xs : LL) : Bool := allN xs.length fun i => meanOk (xs.getD i [])
def msOk (xs : LL) (w : Int) : Bool := decide (1 ≤ xs.length) && (decide (xs.length ≤ 16) && (inM w 1 8 && msFin xs))
def msM (xs : LL) : List Nat := tab xs.length fun i => meanM (xs.getD i [])



theorem off_len (a : List Nat) : (offM a).length = a.length := lessOne_len _ _
theorem likes_len (a : List Nat) (m : Nat) : (likesM a m).length = m + 1 := tab_len _ _
theorem del_zero (x : List Nat) : dotM x x = delM x 0 := rfl
theorem dot_shift (x : List Nat) (lag : Nat) : dotM (x.take (x.length - lag)) (x.drop lag) = delM x lag := by
  unfold dotM delM
  rw [List.length_take, Nat.min_eq_left (Nat.sub_le _ _)]
  refine accN_congr fun i s hi => ?_
  rw [getD_take _ _ _ _ hi, getD_drop', Nat.add_comm lag i]
theorem k_impl_isMost {P : Program} {f g1 g2 : FuncId} (h : Is_impl_isMost P f g1 g2) (c1 : C_impl_IsSeries P g1) (c2 : C_impl_within P g2) : C_impl_isMost P f := by
  intro a most hx
  refine q_impl_isMost h a most ⟨c1 _ hx, fun _ => ⟨fun h0 => ⟨c2 _ _ _, fun _ => ?_⟩, fun h0 => ?_⟩⟩
  · have hl := series_len h0
    rw [wrap64_id (by omega) (by omega)]
    show AV.b _ = AV.b _
    congr 1
    rw [h0, Bool.true_and, Bool.eq_iff_iff]
    by_cases h1 : (a.length : Int) - 1 < 16
    · simp [h1, inM]; omega
    · simp [h1, inM]; omega
  · simp [T.ok, h0]
theorem k_spec_l03Off {P : Program} {f g_spec_l03Mean : FuncId} (h : Is_spec_l03Off P f g_spec_l03Mean) (c1 : C_spec_l03Mean P g_spec_l03Mean) : C_spec_l03Off P f := by
  intro a hx
  refine q_spec_l03Off h a ?_
  refine ⟨c1 _ (by rw [maxLen_eq]; omega), fun _ => ⟨?_, fun _ => rfl⟩⟩
  refine for_up (e := .exit 0) (a.length) (fun i => h_spec_l03Off_L0 a (tab i fun i => fsub .f32 (a.getD i 0) (meanM a)) i) (by first | rfl | simp) (fun i hi => ?_) ?_
  · refine q_spec_l03Off_L0 _ _ _ ?_
    repeat' (first | with_reducible refine T.ok_ob ?_ (fun _ => ?_) | with_reducible refine T.ok_ite (fun _ => ?_) (fun _ => ?_) | with_reducible refine T.ok_leaf ?_)
    all_goals (try simp only [decide_eq_true_eq, decide_eq_false_iff_not, Bool.not_eq_true', Bool.not_eq_false', Bool.not_eq_eq_eq_not, Bool.not_true, Bool.not_false, Int.toNat_natCast, tab_len, List.length_append, List.length_singleton, List.length_cons, List.length_nil, List.length_drop, List.length_take, getD_drop', getD_nat, reduceCtorEq] at *)
    all_goals (try simp (disch := omega) only [wrap64_id] at *)
    all_goals first | omega | (exfalso; omega) | trivial | contradiction | (exfalso; simp_all; done) | skip
    all_goals first | rfl | (rw [tab_succ]; rfl)
  · refine q_spec_l03Off_L0 _ _ _ ?_
    repeat' (first | with_reducible refine T.ok_ob ?_ (fun _ => ?_) | with_reducible refine T.ok_ite (fun _ => ?_) (fun _ => ?_) | with_reducible refine T.ok_leaf ?_)
    all_goals (try simp only [decide_eq_true_eq, decide_eq_false_iff_not, Bool.not_eq_true', Bool.not_eq_false', Bool.not_eq_eq_eq_not, Bool.not_true, Bool.not_false, Int.toNat_natCast, tab_len, List.length_append, List.length_singleton, List.length_cons, List.length_nil, List.length_drop, List.length_take, getD_drop', getD_nat, reduceCtorEq] at *)
    all_goals (try simp (disch := omega) only [wrap64_id] at *)
    all_goals first | omega | (exfalso; omega) | trivial | contradiction | (exfalso; simp_all; done) | skip
    all_goals rfl
  repeat' (first | with_reducible refine T.ok_ob ?_ (fun _ => ?_) | with_reducible refine T.ok_ite (fun _ => ?_) (fun _ => ?_) | with_reducible refine T.ok_leaf ?_)
  all_goals first | with_reducible rfl | with_reducible assumption | ((with_reducible refine c1 _ ?_) <;> (first | assumption | omega | with_reducible rfl | (simp [maxLen_eq]; done) | (simp [maxLen_eq]; omega))) | contradiction | exact fconvOk_32_64 _ | assumption | exact rfl | (simp_all []; done) | (simp_all [T.ok]; omega)

theorem cdel_self (b : List Nat) (g : Nat) : cdelM b b g = delM b g := by
  have gen : ∀ n, accN (fun i s => if 0 ≤ (i : Int) + (g : Int) ∧ (i : Int) + (g : Int) < b.length then fadd .f32 s (fmul .f32 (b.getD i 0) (b.getD ((i : Int) + (g : Int)).toNat 0)) else s) n 0 = accN (fun i s => fadd .f32 s (fmul .f32 (b.getD i 0) (b.getD (i + g) 0))) (min n (b.length - g)) 0 := by
    intro n
    induction n with
    | zero => rfl
    | succ n ih =>
      simp only [accN]
      by_cases h1 : n + g < b.length
      · rw [if_pos (by omega), ih, show min (n + 1) (b.length - g) = min n (b.length - g) + 1 by omega]
        simp only [accN]
        rw [show min n (b.length - g) = n by omega, show ((n : Int) + (g : Int)).toNat = n + g by omega]
      · rw [if_neg (by omega), ih, show min (n + 1) (b.length - g) = min n (b.length - g) by omega]
  unfold cdelM
  rw [gen, show min b.length (b.length - g) = b.length - g by omega]; rfl
theorem k_spec_l03Delayed {P : Program} {f : FuncId} (h : Is_spec_l03Delayed P f) : C_spec_l03Delayed P f := by
  intro a b lag hl hx hy
  refine q_spec_l03Delayed h _ _ _ ?_
  refine ⟨?_, fun _ => rfl⟩
  refine for_up (e := .exit 0) a.length (fun i => h_spec_l03Delayed_L0 a b lag (accN (fun i s => if 0 ≤ (i : Int) + lag ∧ (i : Int) + lag < b.length then fadd .f32 s (fmul .f32 (a.getD i 0) (b.getD ((i : Int) + lag).toNat 0)) else s) i 0) i) rfl (fun i hi => ?_) ?_
  · refine q_spec_l03Delayed_L0 _ _ _ _ _ ?_
    rw [wrap64_id (n := (i : Int) + lag) (by omega) (by omega)]
    simp only [accN]
    generalize accN (fun i s => if 0 ≤ (i : Int) + lag ∧ (i : Int) + lag < b.length then fadd .f32 s (fmul .f32 (a.getD i 0) (b.getD ((i : Int) + lag).toNat 0)) else s) i 0 = S
    by_cases h1 : 0 ≤ (i : Int) + lag ∧ (i : Int) + lag < b.length
    · rw [if_pos h1]
      repeat' (first | with_reducible refine T.ok_ob ?_ (fun _ => ?_) | with_reducible refine T.ok_ite (fun _ => ?_) (fun _ => ?_) | with_reducible refine T.ok_leaf ?_)
      all_goals (try simp only [decide_eq_true_eq, decide_eq_false_iff_not, Bool.not_eq_true', Bool.not_eq_false', Bool.not_eq_eq_eq_not, Bool.not_true, Bool.not_false, Int.toNat_natCast, tab_len, List.length_append, List.length_singleton, List.length_cons, List.length_nil, List.length_drop, List.length_take, getD_drop', getD_nat, reduceCtorEq] at *)
      all_goals (try simp (disch := omega) only [wrap64_id] at *)
      all_goals first | omega | (exfalso; omega) | trivial | contradiction | (exfalso; simp_all; done) | skip
      all_goals rfl
    · rw [if_neg h1]
      repeat' (first | with_reducible refine T.ok_ob ?_ (fun _ => ?_) | with_reducible refine T.ok_ite (fun _ => ?_) (fun _ => ?_) | with_reducible refine T.ok_leaf ?_)
      all_goals (try simp only [decide_eq_true_eq, decide_eq_false_iff_not, Bool.not_eq_true', Bool.not_eq_false', Bool.not_eq_eq_eq_not, Bool.not_true, Bool.not_false, Int.toNat_natCast, tab_len, List.length_append, List.length_singleton, List.length_cons, List.length_nil, List.length_drop, List.length_take, getD_drop', getD_nat, reduceCtorEq] at *)
      all_goals (try simp (disch := omega) only [wrap64_id] at *)
      all_goals first | omega | (exfalso; omega) | trivial | contradiction | (exfalso; simp_all; done) | skip
      all_goals rfl
  · refine q_spec_l03Delayed_L0 _ _ _ _ _ ?_
    repeat' (first | with_reducible refine T.ok_ob ?_ (fun _ => ?_) | with_reducible refine T.ok_ite (fun _ => ?_) (fun _ => ?_) | with_reducible refine T.ok_leaf ?_)
    all_goals (try simp only [decide_eq_true_eq, decide_eq_false_iff_not, Bool.not_eq_true', Bool.not_eq_false', Bool.not_eq_eq_eq_not, Bool.not_true, Bool.not_false, Int.toNat_natCast, tab_len, List.length_append, List.length_singleton, List.length_cons, List.length_nil, List.length_drop, List.length_take, getD_drop', getD_nat, reduceCtorEq] at *)
    all_goals (try simp (disch := omega) only [wrap64_id] at *)
    all_goals first | omega | (exfalso; omega) | trivial | contradiction | (exfalso; simp_all; done) | skip
    all_goals rfl
theorem small_sub : ∀ n : Fin 97, ∀ k : Fin 18, k.val ≤ n.val → fsub .f32 (fofi .f32 (n.val : Int)) (fofi .f32 (k.val : Int)) = fofi .f32 ((n.val - k.val : Nat) : Int) := by decide +kernel
theorem likesOk_in {a : List Nat} {most : Int} (h : likesOk a most = true) : 1 ≤ a.length ∧ a.length ≤ 96 ∧ 0 ≤ most ∧ most ≤ 16 ∧ most < a.length := by
  unfold likesOk at h
  simp only [Bool.and_eq_true, decide_eq_true_eq] at h
  have := series_len h.1
  have : 0 ≤ most ∧ most ≤ 16 := by simpa [inM] using h.2.1
  omega
theorem ad_len (l s : Nat) (xs : List Nat) (t : Int) (d n : Nat) : (adM l s xs t d n).length = n := tab_len _ _
end Go.Proofs.LV
