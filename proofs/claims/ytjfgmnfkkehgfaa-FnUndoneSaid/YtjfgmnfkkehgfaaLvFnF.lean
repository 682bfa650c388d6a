/- Sums, means, products, places, moving means, lines, folded periods. -/
import Derived.Test.YtjfgmnfkkehgfaaLvFnCX
namespace Go.Proofs.LV
open Go
set_option linter.unusedVariables false
set_option linter.unusedSimpArgs false

def sumM (xs : List Nat) : Nat := accN (fun i s => fadd .f32 s (xs.getD i 0)) xs.length 0
def meanM (xs : List Nat) : Nat := fdiv .f32 (sumM xs) (fofi .f32 xs.length)
def lessM (xs ys : List Nat) : List Nat := tab xs.length fun i => fsub .f32 (xs.getD i 0) (ys.getD i 0)
def winM (xs : List Nat) (side i : Nat) : List Nat := (xs.drop (i - side)).take (min xs.length (i + side + 1) - (i - side))
def movM (g : List Nat → Nat) (xs : List Nat) (side : Nat) : List Nat := tab xs.length fun i => g (winM xs side i)

-- FN impl_addUp
/-- impl.addUp: slots 17, results [.t 2]; calls []; names [(list, 0), (list, 1), (sum, 3), (_, 4), (x, 5)] -/
def ps_impl_addUp : List Nat := [0, 2, 3, 5, 6, 7, 8, 9]
def lv_impl_addUp_L0 : List Nat := [3, 6, 7, 8]
def b_impl_addUp_L0 : VCode :=
 (.seq
 (.region false [
 ⟨some 9, (.bin .lss), [.t 8, .t 7], none⟩])
 (.seq
 (.cond (.t 9)
 .skip
 (.exit 0))
 (.seq
 (.block 1
 (.seq
 (.region false [
 ⟨some 10, .iaddr, [.t 6, .t 8], none⟩,
 ⟨some 11, .load, [.t 10], none⟩,
 ⟨some 5, .mv, [.t 11], none⟩])
 (.region false [
 ⟨some 12, .mv, [.t 3], none⟩,
 ⟨some 13, .mv, [.t 5], none⟩,
 ⟨some 14, (.bin .add), [.t 12, .t 13], none⟩,
 ⟨some 3, .mv, [.t 14], none⟩])))
 (.region false [
 ⟨some 15, (.bin .add), [.t 8, .k (.i .i64 1)], none⟩,
 ⟨some 8, .mv, [.t 15], none⟩]))))

def b_impl_addUp : VCode :=
 (.seq
 (.region false [
 ⟨some 2, .mv, [.k (.f .f32 0)], none⟩])
 (.seq
 (.region false [
 ⟨some 3, .mv, [.k (.f .f32 0)], none⟩])
 (.seq
 (.seq
 (.region false [
 ⟨some 6, .mv, [.t 0], none⟩,
 ⟨some 7, .len, [.t 6], none⟩,
 ⟨some 8, .mv, [.k (.i .i64 0)], none⟩])
 (.block 0 (.loop b_impl_addUp_L0)))
 (.seq
 (.region false [
 ⟨some 16, .mv, [.t 3], none⟩,
 ⟨some 2, .mv, [.t 16], none⟩])
 .ret))))

abbrev Is_impl_addUp (P : Program) (g_f : FuncId) : Prop := FnIs P g_f 17 [.t 2] (b_impl_addUp)

abbrev C_impl_addUp (P : Program) (g_f : FuncId) : Prop := ∀ (xs : List Nat) (hx : xs.length ≤ maxLen), VCall P g_f [PS [0] .f32 xs] (.f .f32 (sumM xs))
def oc1_impl_addUp (as : List AV) : T AV := match as with | [.sl _ _ (.f .f32 xs)] => .leaf (.f .f32 (sumM xs)) | _ => .fail
def h_impl_addUp_L0 (xs : List Nat) (sum : Nat) (v8 : Int) : Env := [.any, .any, .any, .f FloatKind.f32 sum, .any, .any, AV.sl (Tag.par [0]) 0 (Cont.f FloatKind.f32 xs), AV.i IntKind.i64 (↑(List.length xs) : Int), .i IntKind.i64 v8] ++ anys 8

theorem q_impl_addUp_L0 {VC : FuncId → List AV → AV → Prop} (xs : List Nat) (sum : Nat) (v8 : Int) {e_ : Ex} {σ_ : Env} (ht : T.ok (fun x_ => x_ = (e_, σ_)) (
 T.ite (decide (v8 < (↑(List.length xs) : Int)))
 (T.ob (0 ≤ v8 ∧ v8 < (↑(List.length xs) : Int)) (T.leaf (Ex.normal, h_impl_addUp_L0 xs (fadd FloatKind.f32 sum (List.getD xs (Int.toNat v8) 0)) (IntKind.wrap IntKind.i64 (v8 + 1)))))
 (T.leaf (Ex.exit 0, h_impl_addUp_L0 xs sum v8)))) :
 Exec VC ps_impl_addUp (b_impl_addUp_L0) (h_impl_addUp_L0 xs sum v8) e_ σ_ := evL_of (lv := lv_impl_addUp_L0) (rs := [2]) (O := ⟨fun _ _ => .fail, fun _ _ => none⟩) (by kernel_rfl) ht

theorem q_impl_addUp {P : Program} {g_f : FuncId} (h_ : Is_impl_addUp P g_f) (xs : List Nat) (ht : T.ok (fun x_ => x_ = .f .f32 (sumM xs)) (
 T.ob (Exec (VCall P) ps_impl_addUp (VCode.block 0 (VCode.loop b_impl_addUp_L0)) (h_impl_addUp_L0 xs 0 0) Ex.normal (h_impl_addUp_L0 xs (sumM xs) (↑(List.length xs) : Int))) (T.leaf (AV.f FloatKind.f32 (sumM xs))))) :
 VCall P g_f [PS [0] .f32 xs] (.f .f32 (sumM xs)) := h_.call_of ps_impl_addUp ⟨fun _ _ => .fail, fun id σ => match id with | 0 => some (lv_impl_addUp_L0, .leaf (.normal, h_impl_addUp_L0 xs (sumM xs) xs.length)) | _ => none⟩ (by kernel_rfl) ht

-- END impl_addUp


-- FN impl_mean
/-- impl.mean: slots 9, results [.t 2]; calls [4:gq0]; names [(list, 0), (list, 1)] -/
def ps_impl_mean : List Nat := [0, 2]
def b_impl_mean (gq0 : FuncId) : VCode :=
 (.seq
 (.region false [
 ⟨some 2, .mv, [.k (.f .f32 0)], none⟩])
 (.seq
 (.region false [
 ⟨some 3, .mv, [.t 0], none⟩,
 ⟨some 4, (.call gq0), [.t 3], none⟩,
 ⟨some 5, .mv, [.t 0], none⟩,
 ⟨some 6, .len, [.t 5], none⟩,
 ⟨some 7, (.convF .f32), [.t 6], none⟩,
 ⟨some 8, (.bin .quo), [.t 4, .t 7], none⟩,
 ⟨some 2, .mv, [.t 8], none⟩])
 .ret))

abbrev Is_impl_mean (P : Program) (g_f : FuncId) (gq0 : FuncId) : Prop := FnIs P g_f 9 [.t 2] (b_impl_mean gq0)

abbrev C_impl_mean (P : Program) (g_f : FuncId) : Prop := ∀ (xs : List Nat) (hx : xs.length ≤ maxLen), VCall P g_f [PS [0] .f32 xs] (.f .f32 (meanM xs))
def oc_impl_mean (xs : List Nat) (d : Nat) (as : List AV) : T AV := match d with | 4 => oc1_impl_addUp as | _ => .fail



theorem q_impl_mean {P : Program} {g_f : FuncId} {gq0 : FuncId} (h_ : Is_impl_mean P g_f gq0) (xs : List Nat) (ht : T.ok (fun x_ => x_ = .f .f32 (meanM xs)) (
 T.ob ((VCall P) gq0 [AV.sl (Tag.par [0]) 0 (Cont.f FloatKind.f32 xs)] (AV.f FloatKind.f32 (sumM xs)))
 (T.ob True (T.ob True (T.leaf (AV.f FloatKind.f32 (fdiv FloatKind.f32 (sumM xs) (fofi FloatKind.f32 (↑(List.length xs) : Int))))))))) :
 VCall P g_f [PS [0] .f32 xs] (.f .f32 (meanM xs)) := h_.call_of ps_impl_mean ⟨oc_impl_mean xs, fun _ _ => none⟩ (by kernel_rfl) ht

-- END impl_mean




-- FN impl_lessOne
-- END impl_lessOne



-- FN impl_moving
/-- impl.moving: slots 36, results [.t 6]; calls [31:VALUE]; names [(list, 0), (side, 1), (of, 2), (list, 3), (side, 4), (of, 5), (out, 7), (n, 8), (i, 9)] -/
def ps_impl_moving : List Nat := [0, 1, 2, 6, 7, 8, 9, 13, 14, 15]
def lv_impl_moving_L0 : List Nat := [0, 1, 2, 7, 8, 13, 14]
def b_impl_moving_L0 : VCode :=
 (.seq
 (.region false [
 ⟨some 15, (.bin .lss), [.t 14, .t 13], none⟩])
 (.seq
 (.cond (.t 15)
 .skip
 (.exit 0))
 (.seq
 (.block 1
 (.seq
 (.region false [
 ⟨some 16, .mv, [.t 14], none⟩,
 ⟨some 9, .mv, [.t 16], none⟩])
 (.region false [
 ⟨some 17, .mv, [.t 7], none⟩,
 ⟨some 18, .mv, [.t 2], none⟩,
 ⟨some 19, .mv, [.t 0], none⟩,
 ⟨some 20, .mv, [.t 9], none⟩,
 ⟨some 21, .mv, [.t 1], none⟩,
 ⟨some 22, (.bin .sub), [.t 20, .t 21], none⟩,
 ⟨some 23, .max, [.k (.i .i64 0), .t 22], none⟩,
 ⟨some 24, .mv, [.t 8], none⟩,
 ⟨some 25, .mv, [.t 9], none⟩,
 ⟨some 26, .mv, [.t 1], none⟩,
 ⟨some 27, (.bin .add), [.t 25, .t 26], none⟩,
 ⟨some 28, (.bin .add), [.t 27, .k (.i .i64 1)], none⟩,
 ⟨some 29, .min, [.t 24, .t 28], none⟩,
 ⟨some 30, (.slice true true false), [.t 19, .t 23, .t 29], none⟩,
 ⟨some 31, .callv, [.t 18, .t 30], none⟩,
 ⟨some 32, (.lit true (.f .f32 [])), [.t 31], none⟩,
 ⟨some 33, .app, [.t 17, .t 32], none⟩,
 ⟨some 7, .mv, [.t 33], none⟩])))
 (.region false [
 ⟨some 34, (.bin .add), [.t 14, .k (.i .i64 1)], none⟩,
 ⟨some 14, .mv, [.t 34], none⟩]))))

def b_impl_moving : VCode :=
 (.seq
 (.region false [
 ⟨some 6, (.nilsl (.f .f32 [])), [], none⟩])
 (.seq
 (.region false [
 ⟨some 10, (.lit true (.f .f32 [])), [], none⟩,
 ⟨some 7, .mv, [.t 10], none⟩])
 (.seq
 (.region false [
 ⟨some 11, .mv, [.t 0], none⟩,
 ⟨some 12, .len, [.t 11], none⟩,
 ⟨some 8, .mv, [.t 12], none⟩])
 (.seq
 (.seq
 (.region false [
 ⟨some 13, .mv, [.t 8], none⟩,
 ⟨some 14, .mv, [.k (.i .i64 0)], none⟩])
 (.block 0 (.loop b_impl_moving_L0)))
 (.seq
 (.region false [
 ⟨some 35, .mv, [.t 7], none⟩,
 ⟨some 6, .mv, [.t 35], none⟩])
 .ret)))))

abbrev Is_impl_moving (P : Program) (g_f : FuncId) : Prop := FnIs P g_f 36 [.t 6] (b_impl_moving)

abbrev C_impl_moving (P : Program) (g_f : FuncId) : Prop := ∀ (xs : List Nat) (side : Int) (F : FuncId) (g : List Nat → Nat) (hF : ∃ Q : Nat → Prop, (∀ i, Q (xs.getD i 0)) ∧ ∀ ys : List Nat, 1 ≤ ys.length → ys.length ≤ 96 → (∀ i, Q (ys.getD i 0)) → VCall P F [PS [0] .f32 ys] (.f .f32 (g ys))) (hs : 0 ≤ side ∧ side ≤ 96) (hx : xs.length ≤ 96), VCall P g_f [PS [0] .f32 xs, .i .i64 side, .fn F []] (OS 0 .f32 (movM g xs side.toNat))
def oc_impl_moving (xs : List Nat) (side : Int) (F : FuncId) (g : List Nat → Nat) (d : Nat) (as : List AV) : T AV := match d with | 31 => (match as with | [.sl _ _ (.f _ ys)] => .leaf (.f .f32 (g ys)) | _ => .fail) | _ => .fail
def h_impl_moving_L0 (xs : List Nat) (side : Int) (F : FuncId) (g : List Nat → Nat) (out : List Nat) (v14 : Int) : Env := [AV.sl (Tag.par [0]) 0 (Cont.f FloatKind.f32 xs), AV.i IntKind.i64 side, AV.fn F []] ++ anys 4 ++ [.sl (Tag.own 80) 0 (.f FloatKind.f32 out), AV.i IntKind.i64 (↑(List.length xs) : Int)] ++ anys 4 ++ [AV.i IntKind.i64 (↑(List.length xs) : Int), .i IntKind.i64 v14] ++ anys 21

theorem q_impl_moving_L0 {VC : FuncId → List AV → AV → Prop} (xs : List Nat) (side : Int) (F : FuncId) (g : List Nat → Nat) (out : List Nat) (v14 : Int) {e_ : Ex} {σ_ : Env} (ht : T.ok (fun x_ => x_ = (e_, σ_)) (
 T.ite (decide (v14 < (↑(List.length xs) : Int)))
 (T.ob
 ((0 ≤ bif decide (IntKind.wrap IntKind.i64 (v14 - side) > 0) then IntKind.wrap IntKind.i64 (v14 - side) else 0) ∧
 ((bif decide (IntKind.wrap IntKind.i64 (v14 - side) > 0) then IntKind.wrap IntKind.i64 (v14 - side) else 0) ≤
 bif decide (IntKind.wrap IntKind.i64 (IntKind.wrap IntKind.i64 (v14 + side) + 1) < (↑(List.length xs) : Int)) then IntKind.wrap IntKind.i64 (IntKind.wrap IntKind.i64 (v14 + side) + 1)
 else (↑(List.length xs) : Int)) ∧
 (bif decide (IntKind.wrap IntKind.i64 (IntKind.wrap IntKind.i64 (v14 + side) + 1) < (↑(List.length xs) : Int)) then IntKind.wrap IntKind.i64 (IntKind.wrap IntKind.i64 (v14 + side) + 1)
 else (↑(List.length xs) : Int)) ≤
 (↑(List.length xs) : Int))
 (T.ob
 (VC F
 [AV.sl (Tag.par [0]) 0
 (Cont.f FloatKind.f32
 (List.take
 (Int.toNat
 (bif decide (IntKind.wrap IntKind.i64 (IntKind.wrap IntKind.i64 (v14 + side) + 1) < (↑(List.length xs) : Int)) then IntKind.wrap IntKind.i64 (IntKind.wrap IntKind.i64 (v14 + side) + 1)
 else (↑(List.length xs) : Int)) -
 Int.toNat (bif decide (IntKind.wrap IntKind.i64 (v14 - side) > 0) then IntKind.wrap IntKind.i64 (v14 - side) else 0))
 (List.drop (Int.toNat (bif decide (IntKind.wrap IntKind.i64 (v14 - side) > 0) then IntKind.wrap IntKind.i64 (v14 - side) else 0)) xs)))]
 (AV.f FloatKind.f32
 (g
 (List.take
 (Int.toNat
 (bif decide (IntKind.wrap IntKind.i64 (IntKind.wrap IntKind.i64 (v14 + side) + 1) < (↑(List.length xs) : Int)) then IntKind.wrap IntKind.i64 (IntKind.wrap IntKind.i64 (v14 + side) + 1)
 else (↑(List.length xs) : Int)) -
 Int.toNat (bif decide (IntKind.wrap IntKind.i64 (v14 - side) > 0) then IntKind.wrap IntKind.i64 (v14 - side) else 0))
 (List.drop (Int.toNat (bif decide (IntKind.wrap IntKind.i64 (v14 - side) > 0) then IntKind.wrap IntKind.i64 (v14 - side) else 0)) xs)))))
 (T.ob
 (List.length out +
 List.length
 [g
 (List.take
 (Int.toNat
 (bif decide (IntKind.wrap IntKind.i64 (IntKind.wrap IntKind.i64 (v14 + side) + 1) < (↑(List.length xs) : Int)) then IntKind.wrap IntKind.i64 (IntKind.wrap IntKind.i64 (v14 + side) + 1)
 else (↑(List.length xs) : Int)) -
 Int.toNat (bif decide (IntKind.wrap IntKind.i64 (v14 - side) > 0) then IntKind.wrap IntKind.i64 (v14 - side) else 0))
 (List.drop (Int.toNat (bif decide (IntKind.wrap IntKind.i64 (v14 - side) > 0) then IntKind.wrap IntKind.i64 (v14 - side) else 0)) xs))] ≤
 4294967296)
 (T.leaf
 (Ex.normal,
 h_impl_moving_L0 xs side F g
 (out ++
 [g
 (List.take
 (Int.toNat
 (bif decide (IntKind.wrap IntKind.i64 (IntKind.wrap IntKind.i64 (v14 + side) + 1) < (↑(List.length xs) : Int)) then IntKind.wrap IntKind.i64 (IntKind.wrap IntKind.i64 (v14 + side) + 1)
 else (↑(List.length xs) : Int)) -
 Int.toNat (bif decide (IntKind.wrap IntKind.i64 (v14 - side) > 0) then IntKind.wrap IntKind.i64 (v14 - side) else 0))
 (List.drop (Int.toNat (bif decide (IntKind.wrap IntKind.i64 (v14 - side) > 0) then IntKind.wrap IntKind.i64 (v14 - side) else 0)) xs))])
 (IntKind.wrap IntKind.i64 (v14 + 1)))))))
 (T.leaf (Ex.exit 0, h_impl_moving_L0 xs side F g out v14)))) :
 Exec VC ps_impl_moving (b_impl_moving_L0) (h_impl_moving_L0 xs side F g out v14) e_ σ_ := evL_of (lv := lv_impl_moving_L0) (rs := [6]) (O := ⟨oc_impl_moving xs side F g, fun _ _ => none⟩) (by kernel_rfl) ht

theorem q_impl_moving {P : Program} {g_f : FuncId} (h_ : Is_impl_moving P g_f) (xs : List Nat) (side : Int) (F : FuncId) (g : List Nat → Nat) (ht : T.ok (fun x_ => x_ = OS 0 .f32 (movM g xs side.toNat)) (
 T.ob (Exec (VCall P) ps_impl_moving (VCode.block 0 (VCode.loop b_impl_moving_L0)) (h_impl_moving_L0 xs side F g [] 0) Ex.normal (h_impl_moving_L0 xs side F g (movM g xs (Int.toNat side)) (↑(List.length xs) : Int)))
 (T.leaf (AV.sl (Tag.own 0) 0 (Cont.f FloatKind.f32 (movM g xs (Int.toNat side))))))) :
 VCall P g_f [PS [0] .f32 xs, .i .i64 side, .fn F []] (OS 0 .f32 (movM g xs side.toNat)) := h_.call_of ps_impl_moving ⟨oc_impl_moving xs side F g, fun id σ => match id with | 0 => some (lv_impl_moving_L0, .leaf (.normal, h_impl_moving_L0 xs side F g (movM g xs side.toNat) xs.length)) | _ => none⟩ (by kernel_rfl) ht

-- END impl_moving



def mmOk (g : List Nat → Nat) (xs : List Nat) (side : Int) : Bool := seriesM xs && (inM side 0 96 && finAllM (movM g xs side.toNat))

-- FN impl_isSide
/-- impl.isSide: slots 5, results [.t 2]; calls [4:gq0]; names [(n, 0), (n, 1)] -/
def ps_impl_isSide : List Nat := [0, 2]
def b_impl_isSide (gq0 : FuncId) : VCode :=
 (.seq
 (.region false [
 ⟨some 2, .mv, [.k (.b false)], none⟩])
 (.seq
 (.region false [
 ⟨some 3, .mv, [.t 0], none⟩,
 ⟨some 4, (.call gq0), [.t 3, .k (.i .i64 0), .k (.i .i64 96)], none⟩,
 ⟨some 2, .mv, [.t 4], none⟩])
 .ret))

abbrev Is_impl_isSide (P : Program) (g_f : FuncId) (gq0 : FuncId) : Prop := FnIs P g_f 5 [.t 2] (b_impl_isSide gq0)

abbrev C_impl_isSide (P : Program) (g_f : FuncId) : Prop := ∀ (n : Int), VCall P g_f [.i .i64 n] (.b (inM n 0 96))
def oc1_impl_isSide (as : List AV) : T AV := match as with | [.i .i64 n] => .leaf (.b (inM n 0 96)) | _ => .fail
def oc_impl_isSide (n : Int) (d : Nat) (as : List AV) : T AV := match d with | 4 => oc1_impl_within as | _ => .fail



theorem q_impl_isSide {P : Program} {g_f : FuncId} {gq0 : FuncId} (h_ : Is_impl_isSide P g_f gq0) (n : Int) (ht : T.ok (fun x_ => x_ = .b (inM n 0 96)) (
 T.ob ((VCall P) gq0 [AV.i IntKind.i64 n, AV.i IntKind.i64 0, AV.i IntKind.i64 96] (AV.b (inM n 0 96))) (T.leaf (AV.b (inM n 0 96))))) :
 VCall P g_f [.i .i64 n] (.b (inM n 0 96)) := h_.call_of ps_impl_isSide ⟨oc_impl_isSide n, fun _ _ => none⟩ (by kernel_rfl) ht

-- END impl_isSide

-- FN impl_MovingMean
/-- impl.MovingMean: slots 20, results [.t 4, .t 5]; calls [7:gq0, 11:gq1, 16:gq2, 17:gq3]; names [(list, 0), (side, 1), (list, 2), (side, 3)] -/
def ps_impl_MovingMean : List Nat := [0, 1, 4, 5, 13]
def b_impl_MovingMean (gq0 gq1 gq2 gq4 gq3 : FuncId) : VCode :=
 (.seq
 (.region false [
 ⟨some 4, (.nilsl (.f .f32 [])), [], none⟩,
 ⟨some 5, .mv, [.k (.b false)], none⟩])
 (.seq
 (.seq
 (.region false [
 ⟨some 6, .mv, [.t 0], none⟩,
 ⟨some 7, (.call gq0), [.t 6], none⟩,
 ⟨some 8, .not, [.t 7], none⟩,
 ⟨some 9, .mv, [.t 8], none⟩,
 ⟨some 10, .mv, [.t 1], some (9, false)⟩,
 ⟨some 11, (.call gq1), [.t 10], some (9, false)⟩,
 ⟨some 12, .not, [.t 11], some (9, false)⟩,
 ⟨some 13, .pick, [.t 9, .k (.b true), .t 12], none⟩])
 (.cond (.t 13)
 (.seq
 (.region false [
 ⟨some 4, (.nilsl (.f .f32 [])), [], none⟩,
 ⟨some 5, .mv, [.k (.b false)], none⟩])
 .ret)
 .skip))
 (.seq
 (.region false [
 ⟨some 14, .mv, [.t 0], none⟩,
 ⟨some 15, .mv, [.t 1], none⟩,
 ⟨some 16, (.call gq2), [.t 14, .t 15, .k (.fn gq4 [])], none⟩,
 ⟨some 17, (.call gq3), [.t 16], none⟩,
 ⟨some 18, (.extract 0), [.t 17], none⟩,
 ⟨some 19, (.extract 1), [.t 17], none⟩,
 ⟨some 4, .mv, [.t 18], none⟩,
 ⟨some 5, .mv, [.t 19], none⟩])
 .ret)))

abbrev Is_impl_MovingMean (P : Program) (g_f : FuncId) (gq0 gq1 gq2 gq4 gq3 : FuncId) : Prop := FnIs P g_f 20 [.t 4, .t 5] (b_impl_MovingMean gq0 gq1 gq2 gq4 gq3)

abbrev C_impl_MovingMean (P : Program) (g_f : FuncId) : Prop := ∀ (xs : List Nat) (side : Int) (hx : xs.length ≤ maxLen), VCall P g_f [PS [0] .f32 xs, .i .i64 side] (.tup [OS 0 .f32 (if mmOk meanM xs side = true then movM meanM xs side.toNat else []), .b (mmOk meanM xs side)])
def oc_impl_MovingMean (xs : List Nat) (side : Int) (d : Nat) (as : List AV) : T AV := match d with | 7 => oc1_impl_IsSeries as | 11 => oc1_impl_isSide as | 16 => .leaf (OS 0 .f32 (movM meanM xs side.toNat)) | 17 => oc1_impl_ifAll as | _ => .fail



theorem q_impl_MovingMean {P : Program} {g_f : FuncId} {gq0 gq1 gq2 gq4 gq3 : FuncId} (h_ : Is_impl_MovingMean P g_f gq0 gq1 gq2 gq4 gq3) (xs : List Nat) (side : Int) (ht : T.ok (fun x_ => x_ = .tup [OS 0 .f32 (if mmOk meanM xs side = true then movM meanM xs side.toNat else []), .b (mmOk meanM xs side)]) (
 T.ob ((VCall P) gq0 [AV.sl (Tag.par [0]) 0 (Cont.f FloatKind.f32 xs)] (AV.b (seriesM xs)))
 (T.ite (!seriesM xs) (T.leaf (AV.tup [AV.sl (Tag.own 0) 0 (Cont.f FloatKind.f32 []), AV.b false]))
 (T.ob ((VCall P) gq1 [AV.i IntKind.i64 side] (AV.b (inM side 0 96)))
 (T.ite (!inM side 0 96) (T.leaf (AV.tup [AV.sl (Tag.own 0) 0 (Cont.f FloatKind.f32 []), AV.b false]))
 (T.ob ((VCall P) gq2 [AV.sl (Tag.par [0]) 0 (Cont.f FloatKind.f32 xs), AV.i IntKind.i64 side, AV.fn gq4 []] (AV.sl (Tag.own 0) 0 (Cont.f FloatKind.f32 (movM meanM xs (Int.toNat side)))))
 (T.ob
 ((VCall P) gq3 [AV.sl (Tag.par [0]) 0 (Cont.f FloatKind.f32 (movM meanM xs (Int.toNat side)))]
 (AV.tup [AV.sl (Tag.par [0]) 0 (Cont.f FloatKind.f32 (ifAllM (movM meanM xs (Int.toNat side)))), AV.b (finAllM (movM meanM xs (Int.toNat side)))]))
 (T.leaf (AV.tup [AV.sl (Tag.own 0) 0 (Cont.f FloatKind.f32 (ifAllM (movM meanM xs (Int.toNat side)))), AV.b (finAllM (movM meanM xs (Int.toNat side)))]))))))))) :
 VCall P g_f [PS [0] .f32 xs, .i .i64 side] (.tup [OS 0 .f32 (if mmOk meanM xs side = true then movM meanM xs side.toNat else []), .b (mmOk meanM xs side)]) := h_.call_of ps_impl_MovingMean ⟨oc_impl_MovingMean xs side, fun _ _ => none⟩ (by kernel_rfl) ht

-- END impl_MovingMean


theorem k_impl_addUp {P : Program} {f : FuncId} (h : Is_impl_addUp P f) : C_impl_addUp P f := by
  intro xs hx
  refine q_impl_addUp h xs ?_
  have hm := ml64 hx
  refine ⟨?_, fun _ => rfl⟩
  refine for_up (e := .exit 0) (xs.length) (fun i => h_impl_addUp_L0 xs (accN (fun i s => fadd .f32 s (xs.getD i 0)) i 0) i) (by first | rfl | simp) (fun i hi => ?_) ?_
  · refine q_impl_addUp_L0 _ _ _ ?_
    repeat' (first | with_reducible refine T.ok_ob ?_ (fun _ => ?_) | with_reducible refine T.ok_ite (fun _ => ?_) (fun _ => ?_) | with_reducible refine T.ok_leaf ?_)
    all_goals (try simp only [decide_eq_true_eq, decide_eq_false_iff_not, Bool.not_eq_true', Bool.not_eq_false', Bool.not_eq_eq_eq_not, Bool.not_true, Bool.not_false, Int.toNat_natCast, tab_len, List.length_append, List.length_singleton, List.length_cons, List.length_nil, List.length_drop, List.length_take, getD_drop', getD_nat, reduceCtorEq] at *)
    all_goals (try simp (disch := omega) only [wrap64_id] at *)
    all_goals first | omega | (exfalso; omega) | trivial | contradiction | (exfalso; simp_all; done) | skip
    all_goals first | rfl | (rw [tab_succ]; rfl)
  · refine q_impl_addUp_L0 _ _ _ ?_
    repeat' (first | with_reducible refine T.ok_ob ?_ (fun _ => ?_) | with_reducible refine T.ok_ite (fun _ => ?_) (fun _ => ?_) | with_reducible refine T.ok_leaf ?_)
    all_goals (try simp only [decide_eq_true_eq, decide_eq_false_iff_not, Bool.not_eq_true', Bool.not_eq_false', Bool.not_eq_eq_eq_not, Bool.not_true, Bool.not_false, Int.toNat_natCast, tab_len, List.length_append, List.length_singleton, List.length_cons, List.length_nil, List.length_drop, List.length_take, getD_drop', getD_nat, reduceCtorEq] at *)
    all_goals (try simp (disch := omega) only [wrap64_id] at *)
    all_goals first | omega | (exfalso; omega) | trivial | contradiction | (exfalso; simp_all; done) | skip
    all_goals rfl
  repeat' (first | with_reducible refine T.ok_ob ?_ (fun _ => ?_) | with_reducible refine T.ok_ite (fun _ => ?_) (fun _ => ?_) | with_reducible refine T.ok_leaf ?_)
  all_goals first | with_reducible rfl | with_reducible assumption | contradiction | exact fconvOk_32_64 _ | assumption | exact rfl | (simp_all []; done) | (simp_all [T.ok]; omega)

theorem k_impl_mean {P : Program} {f g_impl_addUp : FuncId} (h : Is_impl_mean P f g_impl_addUp) (c1 : C_impl_addUp P g_impl_addUp) : C_impl_mean P f := by
  intro xs hx
  refine q_impl_mean h xs ?_
  repeat' (first | with_reducible refine T.ok_ob ?_ (fun _ => ?_) | with_reducible refine T.ok_ite (fun _ => ?_) (fun _ => ?_) | with_reducible refine T.ok_leaf ?_)
  all_goals first | with_reducible rfl | with_reducible assumption | ((with_reducible refine c1 _ ?_) <;> (first | assumption | omega | with_reducible rfl | (simp [maxLen_eq]; done) | (simp [maxLen_eq]; omega))) | contradiction | exact fconvOk_32_64 _ | assumption | exact rfl | (simp_all []; done) | (simp_all [T.ok]; omega)

theorem win_low (i s : Nat) (hi : i ≤ 96) (hs : s ≤ 96) : (bif decide (IntKind.wrap .i64 ((i : Int) - s) > 0) then IntKind.wrap .i64 ((i : Int) - s) else 0) = ((i - s : Nat) : Int) := by
  rw [wrap64_id (by omega) (by omega)]
  by_cases h : (i : Int) - s > 0
  · simp only [h, decide_true, cond_true]; omega
  · simp only [h, decide_false, cond_false]; omega
theorem win_high (n i s : Nat) (hn : n ≤ 96) (hi : i ≤ 96) (hs : s ≤ 96) : (bif decide (IntKind.wrap .i64 (IntKind.wrap .i64 ((i : Int) + s) + 1) < (n : Int)) then IntKind.wrap .i64 (IntKind.wrap .i64 ((i : Int) + s) + 1) else (n : Int)) = ((min n (i + s + 1) : Nat) : Int) := by
  rw [wrap64_id (n := (i : Int) + s) (by omega) (by omega), wrap64_id (by omega) (by omega)]
  by_cases h : (i : Int) + s + 1 < n
  · simp only [h, decide_true, cond_true]; omega
  · simp only [h, decide_false, cond_false]; omega
theorem win_len (xs : List Nat) (s i : Nat) (h : i < xs.length) : 1 ≤ (winM xs s i).length ∧ (winM xs s i).length ≤ xs.length := by
  unfold winM; rw [List.length_take, List.length_drop]; omega
theorem nan_zero : nanB .f32 0 = false := by decide
theorem win_all {Q : Nat → Prop} {xs : List Nat} (hN : ∀ i, Q (xs.getD i 0)) (s i j : Nat) : Q ((winM xs s i).getD j 0) := by
  unfold winM
  by_cases h : j < min xs.length (i + s + 1) - (i - s)
  · rw [getD_sub _ _ _ _ _ h]; exact hN _
  · rw [show (List.take (min xs.length (i + s + 1) - (i - s)) (List.drop (i - s) xs)).getD j 0 = 0 by
      simp only [List.getD]
      rw [List.getElem?_eq_none (by rw [List.length_take]; omega)]; rfl]
    have h0 := hN xs.length
    rw [List.getD_eq_getElem?_getD, List.getElem?_eq_none (Nat.le_refl _)] at h0
    exact h0
theorem fin_nan0 {x : Nat} (h : finM x = true) : nanB .f32 x = false := by
  cases hr : Ieee.single.read x with
  | nan s t =>
    exfalso
    have e : fsub .f32 x x = fnan .f32 := by
      unfold fsub Ieee.Format.sub
      show (Option.map _ ((Ieee.single.read x).sum (Ieee.single.read x).opposite)).getD _ = _
      rw [hr]; rfl
    unfold finM at h
    rw [e] at h
    revert h; decide
  | infinity s => show (Ieee.single.read x).isNaN = false; rw [hr]; rfl
  | number s m e => show (Ieee.single.read x).isNaN = false; rw [hr]; rfl
theorem series_nan {xs : List Nat} (h : seriesM xs = true) (i : Nat) : nanB .f32 (xs.getD i 0) = false := by
  simp [seriesM, finAllM] at h
  by_cases hi : i < xs.length
  · refine fin_nan0 ?_
    have := h.2.2 xs[i] (List.getElem_mem hi)
    simpa [List.getD, List.getElem?_eq_getElem hi] using this
  · rw [show xs.getD i 0 = 0 by simp [List.getD, List.getElem?_eq_none (Nat.le_of_not_lt hi)]]
    exact nan_zero
theorem k_impl_moving {P : Program} {f : FuncId} (h : Is_impl_moving P f) : C_impl_moving P f := by
  intro xs side F g hF hs hx
  obtain ⟨Q, hN, hF⟩ := hF
  obtain ⟨s, rfl⟩ : ∃ s : Nat, side = s := ⟨side.toNat, by omega⟩
  refine q_impl_moving h xs _ F g ?_
  rw [Int.toNat_natCast]
  refine ⟨?_, fun _ => rfl⟩
  refine for_up (e := .exit 0) xs.length (fun i => h_impl_moving_L0 xs s F g (tab i fun i => g (winM xs s i)) i) rfl (fun i hi => ?_) ?_
  · refine q_impl_moving_L0 _ _ _ _ _ _ ?_
    rw [win_low _ _ (by omega) (by omega), win_high _ _ _ (by omega) (by omega) (by omega)]
    simp only [Int.toNat_natCast]
    have hl := win_len xs s i hi
    rw [show List.take (min xs.length (i + s + 1) - (i - s)) (List.drop (i - s) xs) = winM xs s i from rfl]
    repeat' (first | with_reducible refine T.ok_ob ?_ (fun _ => ?_) | with_reducible refine T.ok_ite (fun _ => ?_) (fun _ => ?_) | with_reducible refine T.ok_leaf ?_)
    all_goals (try simp only [decide_eq_true_eq, decide_eq_false_iff_not, Bool.not_eq_true', Bool.not_eq_false', Bool.not_eq_eq_eq_not, Bool.not_true, Bool.not_false, Int.toNat_natCast, tab_len, List.length_append, List.length_singleton, List.length_cons, List.length_nil, List.length_drop, List.length_take, getD_drop', getD_nat, reduceCtorEq] at *)
    all_goals (try simp (disch := omega) only [wrap64_id] at *)
    all_goals first | omega | (exfalso; omega) | trivial | contradiction | (exfalso; simp_all; done) | skip
    · exact hF _ hl.1 (by omega) (win_all hN s i)
    · rw [tab_succ]; rfl
  · refine q_impl_moving_L0 _ _ _ _ _ _ ?_
    rw [win_low _ _ (by omega) (by omega), win_high _ _ _ (by omega) (by omega) (by omega)]
    simp only [Int.toNat_natCast]
    repeat' (first | with_reducible refine T.ok_ob ?_ (fun _ => ?_) | with_reducible refine T.ok_ite (fun _ => ?_) (fun _ => ?_) | with_reducible refine T.ok_leaf ?_)
    all_goals (try simp only [decide_eq_true_eq, decide_eq_false_iff_not, Bool.not_eq_true', Bool.not_eq_false', Bool.not_eq_eq_eq_not, Bool.not_true, Bool.not_false, Int.toNat_natCast, tab_len, List.length_append, List.length_singleton, List.length_cons, List.length_nil, List.length_drop, List.length_take, getD_drop', getD_nat, reduceCtorEq] at *)
    all_goals (try simp (disch := omega) only [wrap64_id] at *)
    all_goals first | omega | (exfalso; omega) | trivial | contradiction | (exfalso; simp_all; done) | skip
    all_goals rfl
theorem k_impl_isSide {P : Program} {f g_impl_within : FuncId} (h : Is_impl_isSide P f g_impl_within) (c1 : C_impl_within P g_impl_within) : C_impl_isSide P f := by
  intro n
  refine q_impl_isSide h n ?_
  repeat' (first | with_reducible refine T.ok_ob ?_ (fun _ => ?_) | with_reducible refine T.ok_ite (fun _ => ?_) (fun _ => ?_) | with_reducible refine T.ok_leaf ?_)
  all_goals first | with_reducible rfl | with_reducible assumption | with_reducible exact c1 _ _ _ | contradiction | exact fconvOk_32_64 _ | assumption | exact rfl | (simp_all []; done) | (simp_all [T.ok]; omega)

theorem mov_len (g : List Nat → Nat) (xs : List Nat) (s : Nat) : (movM g xs s).length = xs.length := tab_len _ _
theorem k_impl_MovingMean {P : Program} {f g1 g2 g3 g4 g5 : FuncId} (h : Is_impl_MovingMean P f g1 g2 g3 g4 g5) (c1 : C_impl_IsSeries P g1) (c2 : C_impl_isSide P g2) (c3 : C_impl_moving P g3) (c4 : C_impl_mean P g4) (c5 : C_impl_ifAll P g5) : C_impl_MovingMean P f := by
  intro xs side hx
  refine q_impl_MovingMean h xs side ?_
  have hl := fun h => series_len (xs := xs) h
  have hi : inM side 0 96 = true → 0 ≤ side ∧ side ≤ 96 := by intro h; simpa [inM] using h
  have ml := mov_len meanM xs side.toNat
  repeat' (first | with_reducible refine T.ok_ob ?_ (fun _ => ?_) | with_reducible refine T.ok_ite (fun _ => ?_) (fun _ => ?_) | with_reducible refine T.ok_leaf ?_)
  all_goals first | with_reducible rfl | with_reducible exact c1 _ hx | with_reducible exact c2 _ | exact c3 xs side _ meanM ⟨fun _ => True, fun _ => trivial, fun ys _ _ _ => c4 ys (by rw [maxLen_eq]; omega)⟩ (hi (by simp_all)) (hl (by simp_all)).2 | exact c5 _ (by rw [ml]; exact hx) | (simp_all [mmOk, ifAllM]; done)
theorem less_len (xs ys : List Nat) : (lessM xs ys).length = xs.length := tab_len _ _
end Go.Proofs.LV
