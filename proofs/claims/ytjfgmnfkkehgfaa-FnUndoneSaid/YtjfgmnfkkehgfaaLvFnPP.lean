/- Differences and sums, steps that are joined or left out. -/
import Derived.Test.YtjfgmnfkkehgfaaLvFnOOX
import Derived.Test.YtjfgmnfkkehgfaaLvFnIX
namespace Go.Proofs.LV
open Go
set_option linter.unusedVariables false
set_option linter.unusedSimpArgs false

def ldM (xs : List Nat) (l : Nat) : List Nat := lessM (xs.drop l) xs
def ldOk (xs : List Nat) (l : Int) : Bool := seriesM xs && inM l 1 (xs.length - 1)
-- FN impl_LagDifferences
/-- impl.LagDifferences: slots 25, results [.t 4, .t 5]; calls [7:gq0, 14:gq1, 21:gq2, 22:gq3]; names [(list, 0), (lag, 1), (list, 2), (lag, 3)] -/
def ps_impl_LagDifferences : List Nat := [0, 1, 4, 5, 16]
def b_impl_LagDifferences (gq0 gq1 gq2 gq3 : FuncId) : VCode :=
 (.seq
 (.region false [
 ⟨some 4, (.nilsl (.f .f32 [])), [], none⟩,
 ⟨some 5, .mv, [.k (.b false)], none⟩])
 (.seq
 (.seq
 (.region false [
 ⟨some 6, .mv, [.t 0], none⟩,
 ⟨some 7, (.call gq0), [.t 6], none⟩,
 ⟨some 8, .not, [.t 7], none⟩,
 ⟨some 9, .mv, [.t 8], none⟩,
 ⟨some 10, .mv, [.t 1], some (9, false)⟩,
 ⟨some 11, .mv, [.t 0], some (9, false)⟩,
 ⟨some 12, .len, [.t 11], some (9, false)⟩,
 ⟨some 13, (.bin .sub), [.t 12, .k (.i .i64 1)], some (9, false)⟩,
 ⟨some 14, (.call gq1), [.t 10, .k (.i .i64 1), .t 13], some (9, false)⟩,
 ⟨some 15, .not, [.t 14], some (9, false)⟩,
 ⟨some 16, .pick, [.t 9, .k (.b true), .t 15], none⟩])
 (.cond (.t 16)
 (.seq
 (.region false [
 ⟨some 4, (.nilsl (.f .f32 [])), [], none⟩,
 ⟨some 5, .mv, [.k (.b false)], none⟩])
 .ret)
 .skip))
 (.seq
 (.region false [
 ⟨some 17, .mv, [.t 0], none⟩,
 ⟨some 18, .mv, [.t 1], none⟩,
 ⟨some 19, (.slice true false false), [.t 17, .t 18], none⟩,
 ⟨some 20, .mv, [.t 0], none⟩,
 ⟨some 21, (.call gq2), [.t 19, .t 20], none⟩,
 ⟨some 22, (.call gq3), [.t 21], none⟩,
 ⟨some 23, (.extract 0), [.t 22], none⟩,
 ⟨some 24, (.extract 1), [.t 22], none⟩,
 ⟨some 4, .mv, [.t 23], none⟩,
 ⟨some 5, .mv, [.t 24], none⟩])
 .ret)))

abbrev Is_impl_LagDifferences (P : Program) (g_f : FuncId) (gq0 gq1 gq2 gq3 : FuncId) : Prop := FnIs P g_f 25 [.t 4, .t 5] (b_impl_LagDifferences gq0 gq1 gq2 gq3)

abbrev C_impl_LagDifferences (P : Program) (g_f : FuncId) : Prop := ∀ (xs : List Nat) (l : Int) (hx : xs.length ≤ maxLen), VCall P g_f [PS [0] .f32 xs, .i .i64 l] (.tup [OS 0 .f32 (if ldOk xs l = true then ifAllM (ldM xs l.toNat) else []), .b (ldOk xs l && finAllM (ldM xs l.toNat))])
def oc_impl_LagDifferences (xs : List Nat) (l : Int) (d : Nat) (as : List AV) : T AV := match d with | 7 => oc1_impl_IsSeries as | 14 => oc1_impl_within as | 21 => oc1_impl_less as | 22 => oc1_impl_ifAll as | _ => .fail



theorem q_impl_LagDifferences {P : Program} {g_f : FuncId} {gq0 gq1 gq2 gq3 : FuncId} (h_ : Is_impl_LagDifferences P g_f gq0 gq1 gq2 gq3) (xs : List Nat) (l : Int) (ht : T.ok (fun x_ => x_ = .tup [OS 0 .f32 (if ldOk xs l = true then ifAllM (ldM xs l.toNat) else []), .b (ldOk xs l && finAllM (ldM xs l.toNat))]) (
 T.ob ((VCall P) gq0 [AV.sl (Tag.par [0]) 0 (Cont.f FloatKind.f32 xs)] (AV.b (seriesM xs)))
 (T.ite (!seriesM xs) (T.leaf (AV.tup [AV.sl (Tag.own 0) 0 (Cont.f FloatKind.f32 []), AV.b false]))
 (T.ob
 ((VCall P) gq1 [AV.i IntKind.i64 l, AV.i IntKind.i64 1, AV.i IntKind.i64 (IntKind.wrap IntKind.i64 ((↑(List.length xs) : Int) - 1))] (AV.b (inM l 1 (IntKind.wrap IntKind.i64 ((↑(List.length xs) : Int) - 1)))))
 (T.ite (!inM l 1 (IntKind.wrap IntKind.i64 ((↑(List.length xs) : Int) - 1))) (T.leaf (AV.tup [AV.sl (Tag.own 0) 0 (Cont.f FloatKind.f32 []), AV.b false]))
 (T.ob (0 ≤ l ∧ l ≤ (↑(List.length xs) : Int))
 (T.ob
 ((VCall P) gq2 [AV.sl (Tag.par [0]) 0 (Cont.f FloatKind.f32 (List.take (List.length xs - Int.toNat l) (List.drop (Int.toNat l) xs))), AV.sl (Tag.par [1]) 0 (Cont.f FloatKind.f32 xs)]
 (AV.sl (Tag.own 0) 0 (Cont.f FloatKind.f32 (lessM (List.take (List.length xs - Int.toNat l) (List.drop (Int.toNat l) xs)) xs))))
 (T.ob
 ((VCall P) gq3 [AV.sl (Tag.par [0]) 0 (Cont.f FloatKind.f32 (lessM (List.take (List.length xs - Int.toNat l) (List.drop (Int.toNat l) xs)) xs))]
 (AV.tup
 [AV.sl (Tag.par [0]) 0 (Cont.f FloatKind.f32 (ifAllM (lessM (List.take (List.length xs - Int.toNat l) (List.drop (Int.toNat l) xs)) xs))),
 AV.b (finAllM (lessM (List.take (List.length xs - Int.toNat l) (List.drop (Int.toNat l) xs)) xs))]))
 (T.leaf
 (AV.tup
 [AV.sl (Tag.own 0) 0 (Cont.f FloatKind.f32 (ifAllM (lessM (List.take (List.length xs - Int.toNat l) (List.drop (Int.toNat l) xs)) xs))),
 AV.b (finAllM (lessM (List.take (List.length xs - Int.toNat l) (List.drop (Int.toNat l) xs)) xs))])))))))))) :
 VCall P g_f [PS [0] .f32 xs, .i .i64 l] (.tup [OS 0 .f32 (if ldOk xs l = true then ifAllM (ldM xs l.toNat) else []), .b (ldOk xs l && finAllM (ldM xs l.toNat))]) := h_.call_of ps_impl_LagDifferences ⟨oc_impl_LagDifferences xs l, fun _ _ => none⟩ (by kernel_rfl) ht

-- END impl_LagDifferences

def udM (fs ds : List Nat) : Nat → List Nat
  | 0 => fs
  | n + 1 => udM fs ds n ++ [fadd .f32 (ds.getD n 0) ((udM fs ds n).getD n 0)]
def udOk (fs ds : List Nat) : Bool := seriesM fs && (seriesM ds && decide (fs.length + ds.length ≤ 96))
-- FN impl_UndoDifferences
/-- impl.UndoDifferences: slots 48, results [.t 4, .t 5]; calls [10:gq0, 14:gq0, 26:gq1, 45:gq2]; names [(firsts, 0), (differences, 1), (firsts, 2), (differences, 3), (out, 6), (i, 7), (d, 8)] -/
def ps_impl_UndoDifferences : List Nat := [0, 1, 4, 5, 6, 7, 8, 24, 27, 28, 29, 30]
def lv_impl_UndoDifferences_L0 : List Nat := [6, 27, 28, 29]
def b_impl_UndoDifferences_L0 (gq0 gq1 gq2 : FuncId) : VCode :=
 (.seq
 (.region false [
 ⟨some 30, (.bin .lss), [.t 29, .t 28], none⟩])
 (.seq
 (.cond (.t 30)
 .skip
 (.exit 0))
 (.seq
 (.block 1
 (.seq
 (.region false [
 ⟨some 31, .mv, [.t 29], none⟩,
 ⟨some 32, .iaddr, [.t 27, .t 29], none⟩,
 ⟨some 33, .load, [.t 32], none⟩,
 ⟨some 7, .mv, [.t 31], none⟩,
 ⟨some 8, .mv, [.t 33], none⟩])
 (.region false [
 ⟨some 34, .mv, [.t 6], none⟩,
 ⟨some 35, .mv, [.t 8], none⟩,
 ⟨some 36, .mv, [.t 6], none⟩,
 ⟨some 37, .mv, [.t 7], none⟩,
 ⟨some 38, .iaddr, [.t 36, .t 37], none⟩,
 ⟨some 39, .load, [.t 38], none⟩,
 ⟨some 40, (.bin .add), [.t 35, .t 39], none⟩,
 ⟨some 41, (.lit true (.f .f32 [])), [.t 40], none⟩,
 ⟨some 42, .app, [.t 34, .t 41], none⟩,
 ⟨some 6, .mv, [.t 42], none⟩])))
 (.region false [
 ⟨some 43, (.bin .add), [.t 29, .k (.i .i64 1)], none⟩,
 ⟨some 29, .mv, [.t 43], none⟩]))))

def b_impl_UndoDifferences (gq0 gq1 gq2 : FuncId) : VCode :=
 (.seq
 (.region false [
 ⟨some 4, (.nilsl (.f .f32 [])), [], none⟩,
 ⟨some 5, .mv, [.k (.b false)], none⟩])
 (.seq
 (.seq
 (.region false [
 ⟨some 9, .mv, [.t 0], none⟩,
 ⟨some 10, (.call gq0), [.t 9], none⟩,
 ⟨some 11, .not, [.t 10], none⟩,
 ⟨some 12, .mv, [.t 11], none⟩,
 ⟨some 13, .mv, [.t 1], some (12, false)⟩,
 ⟨some 14, (.call gq0), [.t 13], some (12, false)⟩,
 ⟨some 15, .not, [.t 14], some (12, false)⟩,
 ⟨some 16, .pick, [.t 12, .k (.b true), .t 15], none⟩,
 ⟨some 17, .mv, [.t 16], none⟩,
 ⟨some 18, .mv, [.t 0], some (17, false)⟩,
 ⟨some 19, .len, [.t 18], some (17, false)⟩,
 ⟨some 20, .mv, [.t 1], some (17, false)⟩,
 ⟨some 21, .len, [.t 20], some (17, false)⟩,
 ⟨some 22, (.bin .add), [.t 19, .t 21], some (17, false)⟩,
 ⟨some 23, (.bin .gtr), [.t 22, .k (.i .i64 96)], some (17, false)⟩,
 ⟨some 24, .pick, [.t 17, .k (.b true), .t 23], none⟩])
 (.cond (.t 24)
 (.seq
 (.region false [
 ⟨some 4, (.nilsl (.f .f32 [])), [], none⟩,
 ⟨some 5, .mv, [.k (.b false)], none⟩])
 .ret)
 .skip))
 (.seq
 (.region false [
 ⟨some 25, .mv, [.t 0], none⟩,
 ⟨some 26, (.call gq1), [.t 25], none⟩,
 ⟨some 6, .mv, [.t 26], none⟩])
 (.seq
 (.seq
 (.region false [
 ⟨some 27, .mv, [.t 1], none⟩,
 ⟨some 28, .len, [.t 27], none⟩,
 ⟨some 29, .mv, [.k (.i .i64 0)], none⟩])
 (.block 0 (.loop (b_impl_UndoDifferences_L0 gq0 gq1 gq2))))
 (.seq
 (.region false [
 ⟨some 44, .mv, [.t 6], none⟩,
 ⟨some 45, (.call gq2), [.t 44], none⟩,
 ⟨some 46, (.extract 0), [.t 45], none⟩,
 ⟨some 47, (.extract 1), [.t 45], none⟩,
 ⟨some 4, .mv, [.t 46], none⟩,
 ⟨some 5, .mv, [.t 47], none⟩])
 .ret)))))

abbrev Is_impl_UndoDifferences (P : Program) (g_f : FuncId) (gq0 gq1 gq2 : FuncId) : Prop := FnIs P g_f 48 [.t 4, .t 5] (b_impl_UndoDifferences gq0 gq1 gq2)

abbrev C_impl_UndoDifferences (P : Program) (g_f : FuncId) : Prop := ∀ (fs : List Nat) (ds : List Nat) (hx : fs.length ≤ maxLen) (hy : ds.length ≤ maxLen), VCall P g_f [PS [0] .f32 fs, PS [1] .f32 ds] (.tup [OS 0 .f32 (if udOk fs ds = true then ifAllM (udM fs ds ds.length) else []), .b (udOk fs ds && finAllM (udM fs ds ds.length))])
def oc_impl_UndoDifferences (fs : List Nat) (ds : List Nat) (d : Nat) (as : List AV) : T AV := match d with | 10 => oc1_impl_IsSeries as | 14 => oc1_impl_IsSeries as | 26 => oc1_slices_Clone___float32_float32_ as | 45 => oc1_impl_ifAll as | _ => .fail
def h_impl_UndoDifferences_L0 (fs : List Nat) (ds : List Nat) (out : List Nat) (v29 : Int) : Env := anys 6 ++ [.sl (Tag.own 208) 0 (.f FloatKind.f32 out)] ++ anys 20 ++ [AV.sl (Tag.par [1]) 0 (Cont.f FloatKind.f32 ds), AV.i IntKind.i64 (↑(List.length ds) : Int), .i IntKind.i64 v29] ++ anys 18

theorem q_impl_UndoDifferences_L0 {VC : FuncId → List AV → AV → Prop} {gq0 gq1 gq2 : FuncId} (fs : List Nat) (ds : List Nat) (out : List Nat) (v29 : Int) {e_ : Ex} {σ_ : Env} (ht : T.ok (fun x_ => x_ = (e_, σ_)) (
 T.ite (decide (v29 < (↑(List.length ds) : Int)))
 (T.ob (0 ≤ v29 ∧ v29 < (↑(List.length ds) : Int))
 (T.ob (0 ≤ v29 ∧ v29 < (↑(List.length out) : Int))
 (T.ob (List.length out + List.length [fadd FloatKind.f32 (List.getD ds (Int.toNat v29) 0) (List.getD out (Int.toNat v29) 0)] ≤ 4294967296)
 (T.leaf (Ex.normal, h_impl_UndoDifferences_L0 fs ds (out ++ [fadd FloatKind.f32 (List.getD ds (Int.toNat v29) 0) (List.getD out (Int.toNat v29) 0)]) (IntKind.wrap IntKind.i64 (v29 + 1)))))))
 (T.leaf (Ex.exit 0, h_impl_UndoDifferences_L0 fs ds out v29)))) :
 Exec VC ps_impl_UndoDifferences (b_impl_UndoDifferences_L0 gq0 gq1 gq2) (h_impl_UndoDifferences_L0 fs ds out v29) e_ σ_ := evL_of (lv := lv_impl_UndoDifferences_L0) (rs := [4, 5]) (O := ⟨oc_impl_UndoDifferences fs ds, fun _ _ => none⟩) (by kernel_rfl) ht

theorem q_impl_UndoDifferences {P : Program} {g_f : FuncId} {gq0 gq1 gq2 : FuncId} (h_ : Is_impl_UndoDifferences P g_f gq0 gq1 gq2) (fs : List Nat) (ds : List Nat) (ht : T.ok (fun x_ => x_ = .tup [OS 0 .f32 (if udOk fs ds = true then ifAllM (udM fs ds ds.length) else []), .b (udOk fs ds && finAllM (udM fs ds ds.length))]) (
 T.ob ((VCall P) gq0 [AV.sl (Tag.par [0]) 0 (Cont.f FloatKind.f32 fs)] (AV.b (seriesM fs)))
 (T.ite (!seriesM fs) (T.leaf (AV.tup [AV.sl (Tag.own 0) 0 (Cont.f FloatKind.f32 []), AV.b false]))
 (T.ob ((VCall P) gq0 [AV.sl (Tag.par [0]) 0 (Cont.f FloatKind.f32 ds)] (AV.b (seriesM ds)))
 (T.ite (!seriesM ds) (T.leaf (AV.tup [AV.sl (Tag.own 0) 0 (Cont.f FloatKind.f32 []), AV.b false]))
 (T.ite (decide (IntKind.wrap IntKind.i64 ((↑(List.length fs) : Int) + (↑(List.length ds) : Int)) > 96)) (T.leaf (AV.tup [AV.sl (Tag.own 0) 0 (Cont.f FloatKind.f32 []), AV.b false]))
 (T.ob ((VCall P) gq1 [AV.sl (Tag.par [0]) 0 (Cont.f FloatKind.f32 fs)] (AV.sl (Tag.own 0) 0 (Cont.f FloatKind.f32 fs)))
 (T.ob
 (Exec (VCall P) ps_impl_UndoDifferences (VCode.block 0 (VCode.loop (b_impl_UndoDifferences_L0 gq0 gq1 gq2))) (h_impl_UndoDifferences_L0 fs ds fs 0) Ex.normal
 (h_impl_UndoDifferences_L0 fs ds (udM fs ds (List.length ds)) (↑(List.length ds) : Int)))
 (T.ob
 ((VCall P) gq2 [AV.sl (Tag.par [0]) 0 (Cont.f FloatKind.f32 (udM fs ds (List.length ds)))]
 (AV.tup [AV.sl (Tag.par [0]) 0 (Cont.f FloatKind.f32 (ifAllM (udM fs ds (List.length ds)))), AV.b (finAllM (udM fs ds (List.length ds)))]))
 (T.leaf (AV.tup [AV.sl (Tag.own 0) 0 (Cont.f FloatKind.f32 (ifAllM (udM fs ds (List.length ds)))), AV.b (finAllM (udM fs ds (List.length ds)))]))))))))))) :
 VCall P g_f [PS [0] .f32 fs, PS [1] .f32 ds] (.tup [OS 0 .f32 (if udOk fs ds = true then ifAllM (udM fs ds ds.length) else []), .b (udOk fs ds && finAllM (udM fs ds ds.length))]) := h_.call_of ps_impl_UndoDifferences ⟨oc_impl_UndoDifferences fs ds, fun id σ => match id with | 0 => some (lv_impl_UndoDifferences_L0, .leaf (.normal, h_impl_UndoDifferences_L0 fs ds (udM fs ds ds.length) ds.length)) | _ => none⟩ (by kernel_rfl) ht

-- END impl_UndoDifferences

def rsS (xs : List Nat) (n : Nat) : Nat := accN (fun i s => fadd .f32 s (xs.getD i 0)) n 0
def rsM (xs : List Nat) (n : Nat) : List Nat := tab n fun i => rsS xs (i + 1)
-- FN impl_RunningSums
/-- impl.RunningSums: slots 30, results [.t 2, .t 3]; calls [9:gq0, 27:gq1]; names [(list, 0), (list, 1), (out, 4), (sum, 5), (_, 6), (x, 7)] -/
def ps_impl_RunningSums : List Nat := [0, 2, 3, 4, 5, 7, 10, 12, 13, 14, 15]
def lv_impl_RunningSums_L0 : List Nat := [4, 5, 12, 13, 14]
def b_impl_RunningSums_L0 (gq0 gq1 : FuncId) : VCode :=
 (.seq
 (.region false [
 ⟨some 15, (.bin .lss), [.t 14, .t 13], none⟩])
 (.seq
 (.cond (.t 15)
 .skip
 (.exit 0))
 (.seq
 (.block 1
 (.seq
 (.region false [
 ⟨some 16, .iaddr, [.t 12, .t 14], none⟩,
 ⟨some 17, .load, [.t 16], none⟩,
 ⟨some 7, .mv, [.t 17], none⟩])
 (.seq
 (.region false [
 ⟨some 18, .mv, [.t 5], none⟩,
 ⟨some 19, .mv, [.t 7], none⟩,
 ⟨some 20, (.bin .add), [.t 18, .t 19], none⟩,
 ⟨some 5, .mv, [.t 20], none⟩])
 (.region false [
 ⟨some 21, .mv, [.t 4], none⟩,
 ⟨some 22, .mv, [.t 5], none⟩,
 ⟨some 23, (.lit true (.f .f32 [])), [.t 22], none⟩,
 ⟨some 24, .app, [.t 21, .t 23], none⟩,
 ⟨some 4, .mv, [.t 24], none⟩]))))
 (.region false [
 ⟨some 25, (.bin .add), [.t 14, .k (.i .i64 1)], none⟩,
 ⟨some 14, .mv, [.t 25], none⟩]))))

def b_impl_RunningSums (gq0 gq1 : FuncId) : VCode :=
 (.seq
 (.region false [
 ⟨some 2, (.nilsl (.f .f32 [])), [], none⟩,
 ⟨some 3, .mv, [.k (.b false)], none⟩])
 (.seq
 (.seq
 (.region false [
 ⟨some 8, .mv, [.t 0], none⟩,
 ⟨some 9, (.call gq0), [.t 8], none⟩,
 ⟨some 10, .not, [.t 9], none⟩])
 (.cond (.t 10)
 (.seq
 (.region false [
 ⟨some 2, (.nilsl (.f .f32 [])), [], none⟩,
 ⟨some 3, .mv, [.k (.b false)], none⟩])
 .ret)
 .skip))
 (.seq
 (.region false [
 ⟨some 11, (.lit true (.f .f32 [])), [], none⟩,
 ⟨some 4, .mv, [.t 11], none⟩])
 (.seq
 (.region false [
 ⟨some 5, .mv, [.k (.f .f32 0)], none⟩])
 (.seq
 (.seq
 (.region false [
 ⟨some 12, .mv, [.t 0], none⟩,
 ⟨some 13, .len, [.t 12], none⟩,
 ⟨some 14, .mv, [.k (.i .i64 0)], none⟩])
 (.block 0 (.loop (b_impl_RunningSums_L0 gq0 gq1))))
 (.seq
 (.region false [
 ⟨some 26, .mv, [.t 4], none⟩,
 ⟨some 27, (.call gq1), [.t 26], none⟩,
 ⟨some 28, (.extract 0), [.t 27], none⟩,
 ⟨some 29, (.extract 1), [.t 27], none⟩,
 ⟨some 2, .mv, [.t 28], none⟩,
 ⟨some 3, .mv, [.t 29], none⟩])
 .ret))))))

abbrev Is_impl_RunningSums (P : Program) (g_f : FuncId) (gq0 gq1 : FuncId) : Prop := FnIs P g_f 30 [.t 2, .t 3] (b_impl_RunningSums gq0 gq1)

abbrev C_impl_RunningSums (P : Program) (g_f : FuncId) : Prop := ∀ (xs : List Nat) (hx : xs.length ≤ maxLen), VCall P g_f [PS [0] .f32 xs] (.tup [OS 0 .f32 (if seriesM xs = true then ifAllM (rsM xs xs.length) else []), .b (seriesM xs && finAllM (rsM xs xs.length))])
def oc_impl_RunningSums (xs : List Nat) (d : Nat) (as : List AV) : T AV := match d with | 9 => oc1_impl_IsSeries as | 27 => oc1_impl_ifAll as | _ => .fail
def h_impl_RunningSums_L0 (xs : List Nat) (out : List Nat) (sum : Nat) (v14 : Int) : Env := anys 4 ++ [.sl (Tag.own 88) 0 (.f FloatKind.f32 out), .f FloatKind.f32 sum] ++ anys 6 ++ [AV.sl (Tag.par [0]) 0 (Cont.f FloatKind.f32 xs), AV.i IntKind.i64 (↑(List.length xs) : Int), .i IntKind.i64 v14] ++ anys 15

theorem q_impl_RunningSums_L0 {VC : FuncId → List AV → AV → Prop} {gq0 gq1 : FuncId} (xs : List Nat) (out : List Nat) (sum : Nat) (v14 : Int) {e_ : Ex} {σ_ : Env} (ht : T.ok (fun x_ => x_ = (e_, σ_)) (
 T.ite (decide (v14 < (↑(List.length xs) : Int)))
 (T.ob (0 ≤ v14 ∧ v14 < (↑(List.length xs) : Int))
 (T.ob (List.length out + List.length [fadd FloatKind.f32 sum (List.getD xs (Int.toNat v14) 0)] ≤ 4294967296)
 (T.leaf (Ex.normal, h_impl_RunningSums_L0 xs (out ++ [fadd FloatKind.f32 sum (List.getD xs (Int.toNat v14) 0)]) (fadd FloatKind.f32 sum (List.getD xs (Int.toNat v14) 0)) (IntKind.wrap IntKind.i64 (v14 + 1))))))
 (T.leaf (Ex.exit 0, h_impl_RunningSums_L0 xs out sum v14)))) :
 Exec VC ps_impl_RunningSums (b_impl_RunningSums_L0 gq0 gq1) (h_impl_RunningSums_L0 xs out sum v14) e_ σ_ := evL_of (lv := lv_impl_RunningSums_L0) (rs := [2, 3]) (O := ⟨oc_impl_RunningSums xs, fun _ _ => none⟩) (by kernel_rfl) ht

theorem q_impl_RunningSums {P : Program} {g_f : FuncId} {gq0 gq1 : FuncId} (h_ : Is_impl_RunningSums P g_f gq0 gq1) (xs : List Nat) (ht : T.ok (fun x_ => x_ = .tup [OS 0 .f32 (if seriesM xs = true then ifAllM (rsM xs xs.length) else []), .b (seriesM xs && finAllM (rsM xs xs.length))]) (
 T.ob ((VCall P) gq0 [AV.sl (Tag.par [0]) 0 (Cont.f FloatKind.f32 xs)] (AV.b (seriesM xs)))
 (T.ite (!seriesM xs) (T.leaf (AV.tup [AV.sl (Tag.own 0) 0 (Cont.f FloatKind.f32 []), AV.b false]))
 (T.ob
 (Exec (VCall P) ps_impl_RunningSums (VCode.block 0 (VCode.loop (b_impl_RunningSums_L0 gq0 gq1))) (h_impl_RunningSums_L0 xs [] 0 0) Ex.normal
 (h_impl_RunningSums_L0 xs (rsM xs (List.length xs)) (rsS xs (List.length xs)) (↑(List.length xs) : Int)))
 (T.ob
 ((VCall P) gq1 [AV.sl (Tag.par [0]) 0 (Cont.f FloatKind.f32 (rsM xs (List.length xs)))]
 (AV.tup [AV.sl (Tag.par [0]) 0 (Cont.f FloatKind.f32 (ifAllM (rsM xs (List.length xs)))), AV.b (finAllM (rsM xs (List.length xs)))]))
 (T.leaf (AV.tup [AV.sl (Tag.own 0) 0 (Cont.f FloatKind.f32 (ifAllM (rsM xs (List.length xs)))), AV.b (finAllM (rsM xs (List.length xs)))]))))))) :
 VCall P g_f [PS [0] .f32 xs] (.tup [OS 0 .f32 (if seriesM xs = true then ifAllM (rsM xs xs.length) else []), .b (seriesM xs && finAllM (rsM xs xs.length))]) := h_.call_of ps_impl_RunningSums ⟨oc_impl_RunningSums xs, fun id σ => match id with | 0 => some (lv_impl_RunningSums_L0, .leaf (.normal, h_impl_RunningSums_L0 xs (rsM xs xs.length) (rsS xs xs.length) xs.length)) | _ => none⟩ (by kernel_rfl) ht

-- END impl_RunningSums

def jsM (xs : List Nat) (n k : Nat) : List Nat := tab k fun j => sumM ((xs.drop (n * j)).take n)
def thM (xs : List Nat) (n k : Nat) : List Nat := tab k fun j => xs.getD (n * j) 0
def perOk (xs : List Nat) (n : Int) : Bool := seriesM xs && inM n 1 xs.length
-- FN impl_JoinSteps
/-- impl.JoinSteps: slots 35, results [.t 4, .t 5]; calls [10:gq0, 28:gq1, 32:gq2]; names [(list, 0), (n, 1), (list, 2), (n, 3), (out, 6), (i, 7)] -/
def ps_impl_JoinSteps : List Nat := [0, 1, 4, 5, 6, 7, 11, 17]
def lv_impl_JoinSteps_L0 : List Nat := [0, 1, 6, 7]
def b_impl_JoinSteps_L0 (gq0 gq1 gq2 : FuncId) : VCode :=
 (.seq
 (.seq
 (.region false [
 ⟨some 14, .mv, [.t 7], none⟩,
 ⟨some 15, .mv, [.t 0], none⟩,
 ⟨some 16, .len, [.t 15], none⟩,
 ⟨some 17, (.bin .leq), [.t 14, .t 16], none⟩])
 (.cond (.t 17)
 .skip
 (.exit 0)))
 (.seq
 (.block 1
 (.region false [
 ⟨some 21, .mv, [.t 6], none⟩,
 ⟨some 22, .mv, [.t 0], none⟩,
 ⟨some 23, .mv, [.t 7], none⟩,
 ⟨some 24, .mv, [.t 1], none⟩,
 ⟨some 25, (.bin .sub), [.t 23, .t 24], none⟩,
 ⟨some 26, .mv, [.t 7], none⟩,
 ⟨some 27, (.slice true true false), [.t 22, .t 25, .t 26], none⟩,
 ⟨some 28, (.call gq1), [.t 27], none⟩,
 ⟨some 29, (.lit true (.f .f32 [])), [.t 28], none⟩,
 ⟨some 30, .app, [.t 21, .t 29], none⟩,
 ⟨some 6, .mv, [.t 30], none⟩]))
 (.region false [
 ⟨some 18, .mv, [.t 7], none⟩,
 ⟨some 19, .mv, [.t 1], none⟩,
 ⟨some 20, (.bin .add), [.t 18, .t 19], none⟩,
 ⟨some 7, .mv, [.t 20], none⟩])))

def b_impl_JoinSteps (gq0 gq1 gq2 : FuncId) : VCode :=
 (.seq
 (.region false [
 ⟨some 4, (.nilsl (.f .f32 [])), [], none⟩,
 ⟨some 5, .mv, [.k (.b false)], none⟩])
 (.seq
 (.seq
 (.region false [
 ⟨some 8, .mv, [.t 0], none⟩,
 ⟨some 9, .mv, [.t 1], none⟩,
 ⟨some 10, (.call gq0), [.t 8, .t 9], none⟩,
 ⟨some 11, .not, [.t 10], none⟩])
 (.cond (.t 11)
 (.seq
 (.region false [
 ⟨some 4, (.nilsl (.f .f32 [])), [], none⟩,
 ⟨some 5, .mv, [.k (.b false)], none⟩])
 .ret)
 .skip))
 (.seq
 (.region false [
 ⟨some 12, (.lit true (.f .f32 [])), [], none⟩,
 ⟨some 6, .mv, [.t 12], none⟩])
 (.seq
 (.seq
 (.region false [
 ⟨some 13, .mv, [.t 1], none⟩,
 ⟨some 7, .mv, [.t 13], none⟩])
 (.block 0 (.loop (b_impl_JoinSteps_L0 gq0 gq1 gq2))))
 (.seq
 (.region false [
 ⟨some 31, .mv, [.t 6], none⟩,
 ⟨some 32, (.call gq2), [.t 31], none⟩,
 ⟨some 33, (.extract 0), [.t 32], none⟩,
 ⟨some 34, (.extract 1), [.t 32], none⟩,
 ⟨some 4, .mv, [.t 33], none⟩,
 ⟨some 5, .mv, [.t 34], none⟩])
 .ret)))))

abbrev Is_impl_JoinSteps (P : Program) (g_f : FuncId) (gq0 gq1 gq2 : FuncId) : Prop := FnIs P g_f 35 [.t 4, .t 5] (b_impl_JoinSteps gq0 gq1 gq2)

abbrev C_impl_JoinSteps (P : Program) (g_f : FuncId) : Prop := ∀ (xs : List Nat) (n : Int) (hx : xs.length ≤ maxLen), VCall P g_f [PS [0] .f32 xs, .i .i64 n] (.tup [OS 0 .f32 (if perOk xs n = true then ifAllM (jsM xs n.toNat (xs.length / n.toNat)) else []), .b (perOk xs n && finAllM (jsM xs n.toNat (xs.length / n.toNat)))])
def oc_impl_JoinSteps (xs : List Nat) (n : Int) (d : Nat) (as : List AV) : T AV := match d with | 10 => oc1_impl_isPeriodOf as | 28 => oc1_impl_addUp as | 32 => oc1_impl_ifAll as | _ => .fail
def h_impl_JoinSteps_L0 (xs : List Nat) (n : Int) (out : List Nat) (i : Int) : Env := [AV.sl (Tag.par [0]) 0 (Cont.f FloatKind.f32 xs), AV.i IntKind.i64 n] ++ anys 4 ++ [.sl (Tag.own 96) 0 (.f FloatKind.f32 out), .i IntKind.i64 i] ++ anys 27

theorem q_impl_JoinSteps_L0 {VC : FuncId → List AV → AV → Prop} {gq0 gq1 gq2 : FuncId} (xs : List Nat) (n : Int) (out : List Nat) (i : Int) {e_ : Ex} {σ_ : Env} (ht : T.ok (fun x_ => x_ = (e_, σ_)) (
 T.ite (decide (i ≤ (↑(List.length xs) : Int)))
 (T.ob (0 ≤ IntKind.wrap IntKind.i64 (i - n) ∧ IntKind.wrap IntKind.i64 (i - n) ≤ i ∧ i ≤ (↑(List.length xs) : Int))
 (T.ob
 (VC gq1 [AV.sl (Tag.par [0]) 0 (Cont.f FloatKind.f32 (List.take (Int.toNat i - Int.toNat (IntKind.wrap IntKind.i64 (i - n))) (List.drop (Int.toNat (IntKind.wrap IntKind.i64 (i - n))) xs)))]
 (AV.f FloatKind.f32 (sumM (List.take (Int.toNat i - Int.toNat (IntKind.wrap IntKind.i64 (i - n))) (List.drop (Int.toNat (IntKind.wrap IntKind.i64 (i - n))) xs)))))
 (T.ob (List.length out + List.length [sumM (List.take (Int.toNat i - Int.toNat (IntKind.wrap IntKind.i64 (i - n))) (List.drop (Int.toNat (IntKind.wrap IntKind.i64 (i - n))) xs))] ≤ 4294967296)
 (T.leaf
 (Ex.normal,
 h_impl_JoinSteps_L0 xs n (out ++ [sumM (List.take (Int.toNat i - Int.toNat (IntKind.wrap IntKind.i64 (i - n))) (List.drop (Int.toNat (IntKind.wrap IntKind.i64 (i - n))) xs))])
 (IntKind.wrap IntKind.i64 (i + n)))))))
 (T.leaf (Ex.exit 0, h_impl_JoinSteps_L0 xs n out i)))) :
 Exec VC ps_impl_JoinSteps (b_impl_JoinSteps_L0 gq0 gq1 gq2) (h_impl_JoinSteps_L0 xs n out i) e_ σ_ := evL_of (lv := lv_impl_JoinSteps_L0) (rs := [4, 5]) (O := ⟨oc_impl_JoinSteps xs n, fun _ _ => none⟩) (by kernel_rfl) ht

theorem q_impl_JoinSteps {P : Program} {g_f : FuncId} {gq0 gq1 gq2 : FuncId} (h_ : Is_impl_JoinSteps P g_f gq0 gq1 gq2) (xs : List Nat) (n : Int) (ht : T.ok (fun x_ => x_ = .tup [OS 0 .f32 (if perOk xs n = true then ifAllM (jsM xs n.toNat (xs.length / n.toNat)) else []), .b (perOk xs n && finAllM (jsM xs n.toNat (xs.length / n.toNat)))]) (
 T.ob ((VCall P) gq0 [AV.sl (Tag.par [0]) 0 (Cont.f FloatKind.f32 xs), AV.i IntKind.i64 n] (AV.b (seriesM xs && inM n 1 (↑(List.length xs) : Int))))
 (T.ite (!(seriesM xs && inM n 1 (↑(List.length xs) : Int))) (T.leaf (AV.tup [AV.sl (Tag.own 0) 0 (Cont.f FloatKind.f32 []), AV.b false]))
 (T.ob
 (Exec (VCall P) ps_impl_JoinSteps (VCode.block 0 (VCode.loop (b_impl_JoinSteps_L0 gq0 gq1 gq2))) (h_impl_JoinSteps_L0 xs n [] n) Ex.normal
 (h_impl_JoinSteps_L0 xs n (jsM xs (Int.toNat n) (List.length xs / Int.toNat n)) (↑(Int.toNat n * (List.length xs / Int.toNat n) + Int.toNat n) : Int)))
 (T.ob
 ((VCall P) gq2 [AV.sl (Tag.par [0]) 0 (Cont.f FloatKind.f32 (jsM xs (Int.toNat n) (List.length xs / Int.toNat n)))]
 (AV.tup [AV.sl (Tag.par [0]) 0 (Cont.f FloatKind.f32 (ifAllM (jsM xs (Int.toNat n) (List.length xs / Int.toNat n)))), AV.b (finAllM (jsM xs (Int.toNat n) (List.length xs / Int.toNat n)))]))
 (T.leaf (AV.tup [AV.sl (Tag.own 0) 0 (Cont.f FloatKind.f32 (ifAllM (jsM xs (Int.toNat n) (List.length xs / Int.toNat n)))), AV.b (finAllM (jsM xs (Int.toNat n) (List.length xs / Int.toNat n)))]))))))) :
 VCall P g_f [PS [0] .f32 xs, .i .i64 n] (.tup [OS 0 .f32 (if perOk xs n = true then ifAllM (jsM xs n.toNat (xs.length / n.toNat)) else []), .b (perOk xs n && finAllM (jsM xs n.toNat (xs.length / n.toNat)))]) := h_.call_of ps_impl_JoinSteps ⟨oc_impl_JoinSteps xs n, fun id σ => match id with | 0 => some (lv_impl_JoinSteps_L0, .leaf (.normal, h_impl_JoinSteps_L0 xs n (jsM xs n.toNat (xs.length / n.toNat)) ((n.toNat * (xs.length / n.toNat) + n.toNat : Nat) : Int))) | _ => none⟩ (by kernel_rfl) ht

-- END impl_JoinSteps

-- FN impl_ThinSteps
/-- impl.ThinSteps: slots 28, results [.t 4, .t 5]; calls [10:gq0]; names [(list, 0), (n, 1), (list, 2), (n, 3), (out, 6), (i, 7)] -/
def ps_impl_ThinSteps : List Nat := [0, 1, 4, 5, 6, 7, 11, 16]
def lv_impl_ThinSteps_L0 : List Nat := [0, 1, 6, 7]
def b_impl_ThinSteps_L0 (gq0 : FuncId) : VCode :=
 (.seq
 (.seq
 (.region false [
 ⟨some 13, .mv, [.t 7], none⟩,
 ⟨some 14, .mv, [.t 0], none⟩,
 ⟨some 15, .len, [.t 14], none⟩,
 ⟨some 16, (.bin .lss), [.t 13, .t 15], none⟩])
 (.cond (.t 16)
 .skip
 (.exit 0)))
 (.seq
 (.block 1
 (.region false [
 ⟨some 20, .mv, [.t 6], none⟩,
 ⟨some 21, .mv, [.t 0], none⟩,
 ⟨some 22, .mv, [.t 7], none⟩,
 ⟨some 23, .iaddr, [.t 21, .t 22], none⟩,
 ⟨some 24, .load, [.t 23], none⟩,
 ⟨some 25, (.lit true (.f .f32 [])), [.t 24], none⟩,
 ⟨some 26, .app, [.t 20, .t 25], none⟩,
 ⟨some 6, .mv, [.t 26], none⟩]))
 (.region false [
 ⟨some 17, .mv, [.t 7], none⟩,
 ⟨some 18, .mv, [.t 1], none⟩,
 ⟨some 19, (.bin .add), [.t 17, .t 18], none⟩,
 ⟨some 7, .mv, [.t 19], none⟩])))

def b_impl_ThinSteps (gq0 : FuncId) : VCode :=
 (.seq
 (.region false [
 ⟨some 4, (.nilsl (.f .f32 [])), [], none⟩,
 ⟨some 5, .mv, [.k (.b false)], none⟩])
 (.seq
 (.seq
 (.region false [
 ⟨some 8, .mv, [.t 0], none⟩,
 ⟨some 9, .mv, [.t 1], none⟩,
 ⟨some 10, (.call gq0), [.t 8, .t 9], none⟩,
 ⟨some 11, .not, [.t 10], none⟩])
 (.cond (.t 11)
 (.seq
 (.region false [
 ⟨some 4, (.nilsl (.f .f32 [])), [], none⟩,
 ⟨some 5, .mv, [.k (.b false)], none⟩])
 .ret)
 .skip))
 (.seq
 (.region false [
 ⟨some 12, (.lit true (.f .f32 [])), [], none⟩,
 ⟨some 6, .mv, [.t 12], none⟩])
 (.seq
 (.seq
 (.region false [
 ⟨some 7, .mv, [.k (.i .i64 0)], none⟩])
 (.block 0 (.loop (b_impl_ThinSteps_L0 gq0))))
 (.seq
 (.region false [
 ⟨some 27, .mv, [.t 6], none⟩,
 ⟨some 4, .mv, [.t 27], none⟩,
 ⟨some 5, .mv, [.k (.b true)], none⟩])
 .ret)))))

abbrev Is_impl_ThinSteps (P : Program) (g_f : FuncId) (gq0 : FuncId) : Prop := FnIs P g_f 28 [.t 4, .t 5] (b_impl_ThinSteps gq0)

abbrev C_impl_ThinSteps (P : Program) (g_f : FuncId) : Prop := ∀ (xs : List Nat) (n : Int) (hx : xs.length ≤ maxLen), VCall P g_f [PS [0] .f32 xs, .i .i64 n] (.tup [OS 0 .f32 (if perOk xs n = true then thM xs n.toNat ((xs.length + n.toNat - 1) / n.toNat) else []), .b (perOk xs n)])
def oc_impl_ThinSteps (xs : List Nat) (n : Int) (d : Nat) (as : List AV) : T AV := match d with | 10 => oc1_impl_isPeriodOf as | _ => .fail
def h_impl_ThinSteps_L0 (xs : List Nat) (n : Int) (out : List Nat) (i : Int) : Env := [AV.sl (Tag.par [0]) 0 (Cont.f FloatKind.f32 xs), AV.i IntKind.i64 n] ++ anys 4 ++ [.sl (Tag.own 96) 0 (.f FloatKind.f32 out), .i IntKind.i64 i] ++ anys 20

theorem q_impl_ThinSteps_L0 {VC : FuncId → List AV → AV → Prop} {gq0 : FuncId} (xs : List Nat) (n : Int) (out : List Nat) (i : Int) {e_ : Ex} {σ_ : Env} (ht : T.ok (fun x_ => x_ = (e_, σ_)) (
 T.ite (decide (i < (↑(List.length xs) : Int)))
 (T.ob (0 ≤ i ∧ i < (↑(List.length xs) : Int))
 (T.ob (List.length out + List.length [List.getD xs (Int.toNat i) 0] ≤ 4294967296) (T.leaf (Ex.normal, h_impl_ThinSteps_L0 xs n (out ++ [List.getD xs (Int.toNat i) 0]) (IntKind.wrap IntKind.i64 (i + n))))))
 (T.leaf (Ex.exit 0, h_impl_ThinSteps_L0 xs n out i)))) :
 Exec VC ps_impl_ThinSteps (b_impl_ThinSteps_L0 gq0) (h_impl_ThinSteps_L0 xs n out i) e_ σ_ := evL_of (lv := lv_impl_ThinSteps_L0) (rs := [4, 5]) (O := ⟨oc_impl_ThinSteps xs n, fun _ _ => none⟩) (by kernel_rfl) ht

theorem q_impl_ThinSteps {P : Program} {g_f : FuncId} {gq0 : FuncId} (h_ : Is_impl_ThinSteps P g_f gq0) (xs : List Nat) (n : Int) (ht : T.ok (fun x_ => x_ = .tup [OS 0 .f32 (if perOk xs n = true then thM xs n.toNat ((xs.length + n.toNat - 1) / n.toNat) else []), .b (perOk xs n)]) (
 T.ob ((VCall P) gq0 [AV.sl (Tag.par [0]) 0 (Cont.f FloatKind.f32 xs), AV.i IntKind.i64 n] (AV.b (seriesM xs && inM n 1 (↑(List.length xs) : Int))))
 (T.ite (!(seriesM xs && inM n 1 (↑(List.length xs) : Int))) (T.leaf (AV.tup [AV.sl (Tag.own 0) 0 (Cont.f FloatKind.f32 []), AV.b false]))
 (T.ob
 (Exec (VCall P) ps_impl_ThinSteps (VCode.block 0 (VCode.loop (b_impl_ThinSteps_L0 gq0))) (h_impl_ThinSteps_L0 xs n [] 0) Ex.normal
 (h_impl_ThinSteps_L0 xs n (thM xs (Int.toNat n) ((List.length xs + Int.toNat n - 1) / Int.toNat n)) (↑(Int.toNat n * ((List.length xs + Int.toNat n - 1) / Int.toNat n)) : Int)))
 (T.leaf (AV.tup [AV.sl (Tag.own 0) 0 (Cont.f FloatKind.f32 (thM xs (Int.toNat n) ((List.length xs + Int.toNat n - 1) / Int.toNat n))), AV.b true])))))) :
 VCall P g_f [PS [0] .f32 xs, .i .i64 n] (.tup [OS 0 .f32 (if perOk xs n = true then thM xs n.toNat ((xs.length + n.toNat - 1) / n.toNat) else []), .b (perOk xs n)]) := h_.call_of ps_impl_ThinSteps ⟨oc_impl_ThinSteps xs n, fun id σ => match id with | 0 => some (lv_impl_ThinSteps_L0, .leaf (.normal, h_impl_ThinSteps_L0 xs n (thM xs n.toNat ((xs.length + n.toNat - 1) / n.toNat)) ((n.toNat * ((xs.length + n.toNat - 1) / n.toNat) : Nat) : Int))) | _ => none⟩ (by kernel_rfl) ht

-- END impl_ThinSteps

theorem bnt : ∀ {b : Bool}, (!b) = true → b = false | false, _ => rfl
theorem bnf : ∀ {b : Bool}, (!b) = false → b = true | true, _ => rfl
theorem ldM_len (xs : List Nat) (l : Nat) : (ldM xs l).length = xs.length - l := by unfold ldM; rw [less_len]; simp
theorem k_impl_LagDifferences {P : Program} {f g1 g2 g3 g4 : FuncId} (h : Is_impl_LagDifferences P f g1 g2 g3 g4) (c1 : C_impl_IsSeries P g1) (c2 : C_impl_within P g2) (c3 : C_impl_less P g3) (c4 : C_impl_ifAll P g4) : C_impl_LagDifferences P f := by
  intro xs l hx
  refine q_impl_LagDifferences h xs l ⟨c1 _ hx, fun _ => ⟨fun h1 => ?_, fun h1 => ?_⟩⟩
  · have h1 := bnt h1
    simp only [T.ok, ldOk, h1, Bool.false_and, Bool.false_eq_true, if_false]
  · have h1 := bnf h1
    have hl := series_len h1
    rw [wrap64_id (n := (xs.length : Int) - 1) (by omega) (by omega)]
    refine ⟨c2 _ _ _, fun _ => ⟨fun h2 => ?_, fun h2 => ?_⟩⟩
    · have h2 := bnt h2
      simp only [T.ok, ldOk, h2, Bool.false_and, Bool.and_false, Bool.false_eq_true, if_false]
    · have h2 := bnf h2
      have hi : 1 ≤ l ∧ l ≤ (xs.length : Int) - 1 := by simpa [inM] using h2
      have hd : List.take (xs.length - l.toNat) (List.drop l.toNat xs) = xs.drop l.toNat := List.take_of_length_le (by simp)
      rw [hd]
      refine ⟨by omega, fun _ => ⟨c3 _ _ (by simp) (by simp; omega), fun _ => ⟨c4 _ (by rw [less_len, List.length_drop]; omega), fun _ => ?_⟩⟩⟩
      simp only [T.ok, ldOk, h1, h2, Bool.true_and, if_true]; rfl
theorem udM_len (fs ds : List Nat) : ∀ n, (udM fs ds n).length = fs.length + n
  | 0 => rfl
  | n + 1 => by simp [udM, udM_len fs ds n]; omega
theorem k_impl_UndoDifferences {P : Program} {f g1 g2 g3 : FuncId} (h : Is_impl_UndoDifferences P f g1 g2 g3) (c1 : C_impl_IsSeries P g1) (c2 : C_slices_Clone___float32_float32_ P g2) (c3 : C_impl_ifAll P g3) : C_impl_UndoDifferences P f := by
  intro fs ds hx hy
  refine q_impl_UndoDifferences h fs ds ⟨c1 _ hx, fun _ => ⟨fun h1 => ?_, fun h1 => ⟨c1 _ hy, fun _ => ⟨fun h2 => ?_, fun h2 => ?_⟩⟩⟩⟩
  · have h1 := bnt h1
    simp only [T.ok, udOk, h1, Bool.false_and, Bool.false_eq_true, if_false]
  · have h2 := bnt h2
    simp only [T.ok, udOk, h2, Bool.false_and, Bool.and_false, Bool.false_eq_true, if_false]
  · have h1 := bnf h1
    have h2 := bnf h2
    have hl := series_len h1
    have hl2 := series_len h2
    have hu := udM_len fs ds
    rw [wrap64_id (n := (fs.length : Int) + ds.length) (by omega) (by omega)]
    refine ⟨fun h3 => ?_, fun h3 => ⟨c2 _ (by omega) (by omega), fun _ => ⟨?_, fun _ => ⟨c3 _ (by rw [hu, maxLen_eq]; omega), fun _ => ?_⟩⟩⟩⟩
    · have h3 := of_decide_eq_true h3
      have : ¬ (fs.length + ds.length ≤ 96) := by omega
      simp only [T.ok, udOk, this, decide_false, Bool.false_and, Bool.and_false, Bool.false_eq_true, if_false]
    · refine for_up (e := .exit 0) ds.length (fun i => h_impl_UndoDifferences_L0 fs ds (udM fs ds i) i) rfl (fun i hi => ?_) ?_
      · have hi' := hu i
        refine q_impl_UndoDifferences_L0 _ _ _ _ ?_
        simp only [Int.toNat_natCast]
        refine ⟨fun _ => ⟨by omega, fun _ => ⟨by omega, fun _ => ⟨by simp; omega, fun _ => ?_⟩⟩⟩, fun h => absurd (of_decide_eq_false h) (by omega)⟩
        show _ = _
        rw [wrap64_id (by omega) (by omega)]; rfl
      · exact q_impl_UndoDifferences_L0 _ _ _ _ ⟨fun h => absurd (of_decide_eq_true h) (by omega), fun _ => rfl⟩
    · have h3 := of_decide_eq_false h3
      have : fs.length + ds.length ≤ 96 := by omega
      simp only [T.ok, udOk, h1, h2, decide_eq_true this, Bool.true_and, if_true]
theorem rsM_len (xs : List Nat) (n : Nat) : (rsM xs n).length = n := tab_len _ _
theorem k_impl_RunningSums {P : Program} {f g1 g2 : FuncId} (h : Is_impl_RunningSums P f g1 g2) (c1 : C_impl_IsSeries P g1) (c2 : C_impl_ifAll P g2) : C_impl_RunningSums P f := by
  intro xs hx
  refine q_impl_RunningSums h xs ⟨c1 _ hx, fun _ => ⟨fun h1 => ?_, fun h1 => ?_⟩⟩
  · have h1 := bnt h1
    simp only [T.ok, h1, Bool.false_and, Bool.false_eq_true, if_false]
  · have h1 := bnf h1
    have hl := series_len h1
    have hr := rsM_len xs
    refine ⟨?_, fun _ => ⟨c2 _ (by rw [hr]; exact hx), fun _ => ?_⟩⟩
    · refine for_up (e := .exit 0) xs.length (fun i => h_impl_RunningSums_L0 xs (rsM xs i) (rsS xs i) i) rfl (fun i hi => ?_) ?_
      · have hi' := hr i
        refine q_impl_RunningSums_L0 _ _ _ _ ?_
        simp only [Int.toNat_natCast]
        refine ⟨fun _ => ⟨by omega, fun _ => ⟨by simp; omega, fun _ => ?_⟩⟩, fun h => absurd (of_decide_eq_false h) (by omega)⟩
        show _ = _
        rw [wrap64_id (by omega) (by omega)]
        unfold rsM
        rw [tab_succ]; rfl
      · exact q_impl_RunningSums_L0 _ _ _ _ ⟨fun h => absurd (of_decide_eq_true h) (by omega), fun _ => rfl⟩
    · simp only [T.ok, h1, Bool.true_and, if_true]

theorem mul_succ_le {n k m : Nat} (hn : 0 < n) (h : k < m / n) : n * k + n ≤ m := by
  have := (Nat.le_div_iff_mul_le hn).1 (show k + 1 ≤ m / n from h)
  rw [Nat.add_mul, Nat.one_mul, Nat.mul_comm] at this; exact this
theorem mul_div_lt {n m : Nat} (hn : 0 < n) : m < n * (m / n) + n := by
  have h1 := Nat.div_add_mod m n
  have h2 := Nat.mod_lt m hn
  omega
theorem k_impl_JoinSteps {P : Program} {f g1 g2 g3 : FuncId} (h : Is_impl_JoinSteps P f g1 g2 g3) (c1 : C_impl_isPeriodOf P g1) (c2 : C_impl_addUp P g2) (c3 : C_impl_ifAll P g3) : C_impl_JoinSteps P f := by
  intro xs n hx
  refine q_impl_JoinSteps h xs n ⟨c1 _ _ hx, fun _ => ⟨fun h1 => ?_, fun h1 => ?_⟩⟩
  · have h1 : perOk xs n = false := bnt h1
    simp only [T.ok, h1, Bool.false_and, Bool.false_eq_true, if_false]
  · have h1 : perOk xs n = true := bnf h1
    have h2 : seriesM xs = true ∧ inM n 1 xs.length = true := by simpa [perOk] using h1
    have hl := series_len h2.1
    have hi : 1 ≤ n ∧ n ≤ (xs.length : Int) := by simpa [inM] using h2.2
    obtain ⟨m, rfl⟩ : ∃ m : Nat, n = m := ⟨n.toNat, by omega⟩
    simp only [Int.toNat_natCast]
    have hdl : xs.length / m ≤ xs.length := Nat.div_le_self _ _
    have hjl : ∀ k, (jsM xs m k).length = k := fun k => tab_len _ _
    refine ⟨?_, fun _ => ⟨c3 _ (by rw [hjl, maxLen_eq]; omega), fun _ => ?_⟩⟩
    · refine for_up (e := .exit 0) (xs.length / m) (fun k => h_impl_JoinSteps_L0 xs m (jsM xs m k) (m * k + m : Nat)) (by show _ = h_impl_JoinSteps_L0 xs m (jsM xs m 0) (m * 0 + m : Nat); rw [Nat.mul_zero, Nat.zero_add]; rfl) (fun k hk => ?_) ?_
      · have hmk := mul_succ_le (n := m) (by omega) hk
        have hj := hjl k
        have e1 : IntKind.wrap .i64 (((m * k + m : Nat) : Int) - (m : Int)) = (m * k : Nat) := by rw [wrap64_id (by omega) (by omega)]; omega
        have e2 : m * k + m - m * k = m := by omega
        have eJ : jsM xs m (k + 1) = jsM xs m k ++ [sumM ((xs.drop (m * k)).take m)] := tab_succ _ _
        refine q_impl_JoinSteps_L0 _ _ _ _ ?_
        rw [e1]
        simp only [Int.toNat_natCast, e2]
        rw [← eJ]
        refine ⟨fun _ => ⟨by omega, fun _ => ⟨c2 _ (by rw [List.length_take, List.length_drop, maxLen_eq]; omega), fun _ => ⟨by simp [hj]; omega, fun _ => ?_⟩⟩⟩, fun h => absurd (of_decide_eq_false h) (by omega)⟩
        show _ = _
        rw [wrap64_id (by omega) (by omega), show ((m * k + m : Nat) : Int) + (m : Int) = ((m * (k + 1) + m : Nat) : Int) by rw [Nat.mul_add, Nat.mul_one]; omega]
      · have := mul_div_lt (n := m) (m := xs.length) (by omega)
        exact q_impl_JoinSteps_L0 _ _ _ _ ⟨fun h => absurd (of_decide_eq_true h) (by omega), fun _ => rfl⟩
    · simp only [T.ok, h1, Bool.true_and, if_true]
theorem k_impl_ThinSteps {P : Program} {f g1 : FuncId} (h : Is_impl_ThinSteps P f g1) (c1 : C_impl_isPeriodOf P g1) : C_impl_ThinSteps P f := by
  intro xs n hx
  refine q_impl_ThinSteps h xs n ⟨c1 _ _ hx, fun _ => ⟨fun h1 => ?_, fun h1 => ?_⟩⟩
  · have h1 : perOk xs n = false := bnt h1
    simp only [T.ok, h1, Bool.false_eq_true, if_false]
  · have h1 : perOk xs n = true := bnf h1
    have h2 : seriesM xs = true ∧ inM n 1 xs.length = true := by simpa [perOk] using h1
    have hl := series_len h2.1
    have hi : 1 ≤ n ∧ n ≤ (xs.length : Int) := by simpa [inM] using h2.2
    obtain ⟨m, rfl⟩ : ∃ m : Nat, n = m := ⟨n.toNat, by omega⟩
    simp only [Int.toNat_natCast]
    have hdl : (xs.length + m - 1) / m ≤ xs.length + m - 1 := Nat.div_le_self _ _
    refine ⟨?_, fun _ => ?_⟩
    · refine for_up (e := .exit 0) ((xs.length + m - 1) / m) (fun k => h_impl_ThinSteps_L0 xs m (thM xs m k) (m * k : Nat)) (by show _ = h_impl_ThinSteps_L0 xs m (thM xs m 0) (m * 0 : Nat); rw [Nat.mul_zero]; rfl) (fun k hk => ?_) ?_
      · have hmk := mul_succ_le (n := m) (by omega) hk
        have hj : (thM xs m k).length = k := tab_len _ _
        have eJ : thM xs m (k + 1) = thM xs m k ++ [xs.getD (m * k) 0] := tab_succ _ _
        refine q_impl_ThinSteps_L0 _ _ _ _ ?_
        simp only [Int.toNat_natCast]
        rw [← eJ]
        refine ⟨fun _ => ⟨by omega, fun _ => ⟨by simp [hj]; omega, fun _ => ?_⟩⟩, fun h => absurd (of_decide_eq_false h) (by omega)⟩
        show _ = _
        rw [wrap64_id (by omega) (by omega), show ((m * k : Nat) : Int) + (m : Int) = ((m * (k + 1) : Nat) : Int) by rw [Nat.mul_add, Nat.mul_one]; omega]
      · have := mul_div_lt (n := m) (m := xs.length + m - 1) (by omega)
        exact q_impl_ThinSteps_L0 _ _ _ _ ⟨fun h => absurd (of_decide_eq_true h) (by omega), fun _ => rfl⟩
    · simp only [T.ok, h1, if_true]

end Go.Proofs.LV
