/- Lines that lead back, their powers, what leads, what goes together. -/
import Derived.Test.YtdffgjembkanoaaLvFnTT
namespace Go.Proofs.LV
open Go Ieee
set_option linter.unusedVariables false
set_option linter.unusedSimpArgs false

open Go.IntKind (wrap)
-- FN impl_AngleOf
def ps_impl_AngleOf : List Nat := [0, 2]
def b_impl_AngleOf (gq0 : FuncId) : VCode :=
 (.seq
 (.region false [
 ⟨some 2, .mv, [.k (.f .f32 0)], none⟩])
 (.seq
 (.region false [
 ⟨some 3, .mv, [.t 0], none⟩,
 ⟨some 4, .im, [.t 3], none⟩,
 ⟨some 5, .mv, [.t 0], none⟩,
 ⟨some 6, .re, [.t 5], none⟩,
 ⟨some 7, (.call gq0), [.t 4, .t 6], none⟩,
 ⟨some 2, .mv, [.t 7], none⟩])
 .ret))

abbrev Is_impl_AngleOf (P : Program) (g_f : FuncId) (gq0 : FuncId) : Prop := FnIs P g_f 8 [.t 2] (b_impl_AngleOf gq0)

abbrev C_impl_AngleOf (P : Program) (g_f : FuncId) : Prop := ∀ (a : Nat) (b : Nat) (hx : sf a ∧ 0 < sv a) (hy : b = 0 ∨ b = 2147483648), VCall P g_f [.c .f32 a b] (.f .f32 0)
def oc_impl_AngleOf (a : Nat) (b : Nat) (d : Nat) (as : List AV) : T AV := match d with | 7 => .leaf (.f .f32 0) | _ => .fail



theorem q_impl_AngleOf {P : Program} {g_f : FuncId} {gq0 : FuncId} (h_ : Is_impl_AngleOf P g_f gq0) (a : Nat) (b : Nat) (ht : T.ok (fun x_ => x_ = .f .f32 0) (
 T.ob ((VCall P) gq0 [AV.f .f32 b, AV.f .f32 a] (AV.f .f32 0)) (T.leaf (AV.f .f32 0)))) :
 VCall P g_f [.c .f32 a b] (.f .f32 0) := h_.call_of ps_impl_AngleOf ⟨oc_impl_AngleOf a b, fun _ _ => none⟩ (by kernel_rfl) ht

-- END impl_AngleOf
-- FN spec_AngleOf
def ps_spec_AngleOf : List Nat := [0, 2]
def b_spec_AngleOf (gq0 gq1 : FuncId) : VCode :=
 (.seq
 (.region false [
 ⟨some 2, .mv, [.k (.f .f32 0)], none⟩])
 (.seq
 (.region false [
 ⟨some 3, .mv, [.t 0], none⟩,
 ⟨some 4, .im, [.t 3], none⟩,
 ⟨some 5, (.convF .f64), [.t 4], none⟩,
 ⟨some 6, .mv, [.t 0], none⟩,
 ⟨some 7, .re, [.t 6], none⟩,
 ⟨some 8, (.convF .f64), [.t 7], none⟩,
 ⟨some 9, (.call gq0), [.t 5, .t 8], none⟩,
 ⟨some 10, (.call gq1), [.t 9], none⟩,
 ⟨some 2, .mv, [.t 10], none⟩])
 .ret))

abbrev Is_spec_AngleOf (P : Program) (g_f : FuncId) (gq0 gq1 : FuncId) : Prop := FnIs P g_f 11 [.t 2] (b_spec_AngleOf gq0 gq1)

abbrev C_spec_AngleOf (P : Program) (g_f : FuncId) : Prop := ∀ (a : Nat) (b : Nat) (hx : sf a ∧ 0 < sv a) (hy : b = 0 ∨ b = 2147483648), VCall P g_f [.c .f32 a b] (.f .f32 0)
def oc_spec_AngleOf (a : Nat) (b : Nat) (d : Nat) (as : List AV) : T AV := match d with | 9 => .leaf (.f .f64 0) | 10 => .leaf (.f .f32 0) | _ => .fail



theorem q_spec_AngleOf {P : Program} {g_f : FuncId} {gq0 gq1 : FuncId} (h_ : Is_spec_AngleOf P g_f gq0 gq1) (a : Nat) (b : Nat) (ht : T.ok (fun x_ => x_ = .f .f32 0) (
 T.ob (fconvOk .f32 .f64 b = true)
 (T.ob (fconvOk .f32 .f64 a = true)
 (T.ob ((VCall P) gq0 [AV.f .f64 (fconv .f32 .f64 b), AV.f .f64 (fconv .f32 .f64 a)] (AV.f .f64 0))
 (T.ob ((VCall P) gq1 [AV.f .f64 0] (AV.f .f32 0)) (T.leaf (AV.f .f32 0))))))) :
 VCall P g_f [.c .f32 a b] (.f .f32 0) := h_.call_of ps_spec_AngleOf ⟨oc_spec_AngleOf a b, fun _ _ => none⟩ (by kernel_rfl) ht

-- END spec_AngleOf

def bkZ (ls : LC) (n i k : Nat) : Nat := dn (muU (ls.getD k (0, 0)).1 (ls.getD k (0, 0)).2 (phM (fdiv .f64 (fofi .f64 ((k : Int) * i)) (fofi .f64 n))).1 (phM (fdiv .f64 (fofi .f64 ((k : Int) * i)) (fofi .f64 n))).2)
def bkX (ls : LC) (n i k : Nat) : Nat := if k ≠ 0 ∧ 2 * k ≠ n then fmul .f32 (bkZ ls n i k) 1073741824 else bkZ ls n i k
def bkS (ls : LC) (n i m : Nat) : Nat := accN (fun k s => fadd .f32 s (bkX ls n i k)) m 0
def bkM (ls : LC) (n m : Nat) : List Nat := tab m fun i => fdiv .f32 (bkS ls n i ls.length) (fofi .f32 n)
-- FN impl_BackOfLines
def ps_impl_BackOfLines : List Nat := [0, 1, 4, 5, 6, 7, 8, 9, 10, 11, 12, 28, 31, 32, 33, 35, 36, 37, 38, 60]
def lv_impl_BackOfLines_L0 : List Nat := [0, 6, 7, 31, 32]
def lv_impl_BackOfLines_L2 : List Nat := [0, 6, 7, 8, 9, 31, 32, 35, 36, 37]
def b_impl_BackOfLines_L2 (gq0 gq1 gq2 gq3 gq4 : FuncId) : VCode :=
 (.seq
 (.region false [
 ⟨some 38, (.bin .lss), [.t 37, .t 36], none⟩])
 (.seq
 (.cond (.t 38)
 .skip
 (.exit 2))
 (.seq
 (.block 3
 (.seq
 (.region false [
 ⟨some 39, .mv, [.t 37], none⟩,
 ⟨some 40, .iaddr, [.t 35, .t 37], none⟩,
 ⟨some 41, .load, [.t 40], none⟩,
 ⟨some 10, .mv, [.t 39], none⟩,
 ⟨some 11, .mv, [.t 41], none⟩])
 (.seq
 (.region false [
 ⟨some 42, .mv, [.t 11], none⟩,
 ⟨some 43, .mv, [.t 10], none⟩,
 ⟨some 44, .mv, [.t 8], none⟩,
 ⟨some 45, (.bin .mul), [.t 43, .t 44], none⟩,
 ⟨some 46, (.convF .f64), [.t 45], none⟩,
 ⟨some 47, .mv, [.t 6], none⟩,
 ⟨some 48, (.convF .f64), [.t 47], none⟩,
 ⟨some 49, (.bin .quo), [.t 46, .t 48], none⟩,
 ⟨some 50, (.call gq2), [.t 49], none⟩,
 ⟨some 51, (.call gq3), [.t 42, .t 50], none⟩,
 ⟨some 52, .re, [.t 51], none⟩,
 ⟨some 12, .mv, [.t 52], none⟩])
 (.seq
 (.seq
 (.region false [
 ⟨some 53, .mv, [.t 10], none⟩,
 ⟨some 54, (.bin .neq), [.t 53, .k (.i .i64 0)], none⟩,
 ⟨some 55, .mv, [.t 54], none⟩,
 ⟨some 56, .mv, [.t 10], some (55, true)⟩,
 ⟨some 57, (.bin .mul), [.k (.i .i64 2), .t 56], some (55, true)⟩,
 ⟨some 58, .mv, [.t 6], some (55, true)⟩,
 ⟨some 59, (.bin .neq), [.t 57, .t 58], some (55, true)⟩,
 ⟨some 60, .pick, [.t 55, .t 59, .k (.b false)], none⟩])
 (.cond (.t 60)
 (.region false [
 ⟨some 61, .mv, [.t 12], none⟩,
 ⟨some 62, (.bin .mul), [.t 61, .k (.f .f32 1073741824)], none⟩,
 ⟨some 12, .mv, [.t 62], none⟩])
 .skip))
 (.region false [
 ⟨some 63, .mv, [.t 9], none⟩,
 ⟨some 64, .mv, [.t 12], none⟩,
 ⟨some 65, (.bin .add), [.t 63, .t 64], none⟩,
 ⟨some 9, .mv, [.t 65], none⟩])))))
 (.region false [
 ⟨some 66, (.bin .add), [.t 37, .k (.i .i64 1)], none⟩,
 ⟨some 37, .mv, [.t 66], none⟩]))))

def b_impl_BackOfLines_L0 (gq0 gq1 gq2 gq3 gq4 : FuncId) : VCode :=
 (.seq
 (.region false [
 ⟨some 33, (.bin .lss), [.t 32, .t 31], none⟩])
 (.seq
 (.cond (.t 33)
 .skip
 (.exit 0))
 (.seq
 (.block 1
 (.seq
 (.region false [
 ⟨some 34, .mv, [.t 32], none⟩,
 ⟨some 8, .mv, [.t 34], none⟩])
 (.seq
 (.region false [
 ⟨some 9, .mv, [.k (.f .f32 0)], none⟩])
 (.seq
 (.seq
 (.region false [
 ⟨some 35, .mv, [.t 0], none⟩,
 ⟨some 36, .len, [.t 35], none⟩,
 ⟨some 37, .mv, [.k (.i .i64 0)], none⟩])
 (.block 2 (.loop (b_impl_BackOfLines_L2 gq0 gq1 gq2 gq3 gq4))))
 (.region false [
 ⟨some 67, .mv, [.t 7], none⟩,
 ⟨some 68, .mv, [.t 9], none⟩,
 ⟨some 69, .mv, [.t 6], none⟩,
 ⟨some 70, (.convF .f32), [.t 69], none⟩,
 ⟨some 71, (.bin .quo), [.t 68, .t 70], none⟩,
 ⟨some 72, (.lit true (.f .f32 [])), [.t 71], none⟩,
 ⟨some 73, .app, [.t 67, .t 72], none⟩,
 ⟨some 7, .mv, [.t 73], none⟩])))))
 (.region false [
 ⟨some 74, (.bin .add), [.t 32, .k (.i .i64 1)], none⟩,
 ⟨some 32, .mv, [.t 74], none⟩]))))

def b_impl_BackOfLines (gq0 gq1 gq2 gq3 gq4 : FuncId) : VCode :=
 (.seq
 (.region false [
 ⟨some 4, (.nilsl (.f .f32 [])), [], none⟩,
 ⟨some 5, .mv, [.k (.b false)], none⟩])
 (.seq
 (.seq
 (.region false [
 ⟨some 13, .mv, [.t 1], none⟩,
 ⟨some 14, (.call gq0), [.t 13, .k (.i .i64 1), .k (.i .i64 96)], none⟩,
 ⟨some 15, .not, [.t 14], none⟩,
 ⟨some 16, .mv, [.t 15], none⟩,
 ⟨some 17, .mv, [.t 0], some (16, false)⟩,
 ⟨some 18, .len, [.t 17], some (16, false)⟩,
 ⟨some 19, .mv, [.t 1], some (16, false)⟩,
 ⟨some 20, (.bin .quo), [.t 19, .k (.i .i64 2)], some (16, false)⟩,
 ⟨some 21, (.bin .add), [.t 20, .k (.i .i64 1)], some (16, false)⟩,
 ⟨some 22, (.bin .neq), [.t 18, .t 21], some (16, false)⟩,
 ⟨some 23, .pick, [.t 16, .k (.b true), .t 22], none⟩,
 ⟨some 24, .mv, [.t 23], none⟩,
 ⟨some 25, .mv, [.t 0], some (24, false)⟩,
 ⟨some 26, (.call gq1), [.t 25], some (24, false)⟩,
 ⟨some 27, .not, [.t 26], some (24, false)⟩,
 ⟨some 28, .pick, [.t 24, .k (.b true), .t 27], none⟩])
 (.cond (.t 28)
 (.seq
 (.region false [
 ⟨some 4, (.nilsl (.f .f32 [])), [], none⟩,
 ⟨some 5, .mv, [.k (.b false)], none⟩])
 .ret)
 .skip))
 (.seq
 (.region false [
 ⟨some 29, .mv, [.t 1], none⟩,
 ⟨some 6, .mv, [.t 29], none⟩])
 (.seq
 (.region false [
 ⟨some 30, (.lit true (.f .f32 [])), [], none⟩,
 ⟨some 7, .mv, [.t 30], none⟩])
 (.seq
 (.seq
 (.region false [
 ⟨some 31, .mv, [.t 6], none⟩,
 ⟨some 32, .mv, [.k (.i .i64 0)], none⟩])
 (.block 0 (.loop (b_impl_BackOfLines_L0 gq0 gq1 gq2 gq3 gq4))))
 (.seq
 (.region false [
 ⟨some 75, .mv, [.t 7], none⟩,
 ⟨some 76, (.call gq4), [.t 75], none⟩,
 ⟨some 77, (.extract 0), [.t 76], none⟩,
 ⟨some 78, (.extract 1), [.t 76], none⟩,
 ⟨some 4, .mv, [.t 77], none⟩,
 ⟨some 5, .mv, [.t 78], none⟩])
 .ret))))))

abbrev Is_impl_BackOfLines (P : Program) (g_f : FuncId) (gq0 gq1 gq2 gq3 gq4 : FuncId) : Prop := FnIs P g_f 79 [.t 4, .t 5] (b_impl_BackOfLines gq0 gq1 gq2 gq3 gq4)

abbrev C_impl_BackOfLines (P : Program) (g_f : FuncId) : Prop := ∀ (ls : LC) (n : Nat) (hn : 1 ≤ n ∧ n ≤ 96) (hl : ls.length = n / 2 + 1) (hf : finAllC ls = true) (hu : ∀ i k, i < n → k < ls.length → fconvOk .f64 .f32 (muU (ls.getD k (0, 0)).1 (ls.getD k (0, 0)).2 (phM (fdiv .f64 (fofi .f64 ((k : Int) * i)) (fofi .f64 n))).1 (phM (fdiv .f64 (fofi .f64 ((k : Int) * i)) (fofi .f64 n))).2) = true ∧ fconvOk .f64 .f32 (muV (ls.getD k (0, 0)).1 (ls.getD k (0, 0)).2 (phM (fdiv .f64 (fofi .f64 ((k : Int) * i)) (fofi .f64 n))).1 (phM (fdiv .f64 (fofi .f64 ((k : Int) * i)) (fofi .f64 n))).2) = true), VCall P g_f [PC [0] ls, .i .i64 n] (.tup [OS 0 .f32 (ifAllM (bkM ls n n)), .b (finAllM (bkM ls n n))])
def oc_impl_BackOfLines (ls : LC) (n : Nat) (d : Nat) (as : List AV) : T AV := match d with | 14 => oc1_impl_within as | 26 => oc1_impl_areLines as | 50 => oc1_impl_PhasorOf as | 51 => oc1_impl_MulComplex as | 76 => oc1_impl_ifAll as | _ => .fail
def h_impl_BackOfLines_L0 (ls : LC) (n : Nat) (out : List Nat) (v32 : Int) : Env := [AV.sl (Tag.par [0]) 0 (Cont.c .f32 ls)] ++ anys 5 ++ [AV.i .i64 (↑n : Int), .sl (Tag.own 240) 0 (.f .f32 out)] ++ anys 23 ++ [AV.i .i64 (↑n : Int), .i .i64 v32] ++ anys 46
def h_impl_BackOfLines_L2 (ls : LC) (n : Nat) (out : List Nat) (v32 : Int) (sum : Nat) (v37 : Int) : Env := [AV.sl (Tag.par [0]) 0 (Cont.c .f32 ls)] ++ anys 5 ++ [AV.i .i64 (↑n : Int), AV.sl (Tag.own 240) 0 (Cont.f .f32 out), AV.i .i64 v32, .f .f32 sum] ++ anys 21 ++ [AV.i .i64 (↑n : Int), AV.i .i64 v32, .any, .any, AV.sl (Tag.par [0]) 0 (Cont.c .f32 ls), AV.i .i64 (↑(List.length ls) : Int), .i .i64 v37] ++ anys 41

theorem q_impl_BackOfLines_L0 {VC : FuncId → List AV → AV → Prop} {gq0 gq1 gq2 gq3 gq4 : FuncId} (ls : LC) (n : Nat) (out : List Nat) (v32 : Int) {e_ : Ex} {σ_ : Env} (ht : T.ok (fun x_ => x_ = (e_, σ_)) (
 T.ite (decide (v32 < (↑n : Int)))
 (T.ob
 (Exec VC ps_impl_BackOfLines (VCode.block 2 (VCode.loop (b_impl_BackOfLines_L2 gq0 gq1 gq2 gq3 gq4))) (h_impl_BackOfLines_L2 ls n out v32 0 0) Ex.normal
 (h_impl_BackOfLines_L2 ls n out v32 (bkS ls n (Int.toNat v32) (List.length ls)) (↑(List.length ls) : Int)))
 (T.ob True
 (T.ob True
 (T.ob (List.length out + List.length [fdiv .f32 (bkS ls n (Int.toNat v32) (List.length ls)) (fofi .f32 (↑n : Int))] ≤ 4294967296)
 (T.leaf (Ex.normal, h_impl_BackOfLines_L0 ls n (out ++ [fdiv .f32 (bkS ls n (Int.toNat v32) (List.length ls)) (fofi .f32 (↑n : Int))]) (wrap .i64 (v32 + 1))))))))
 (T.leaf (Ex.exit 0, h_impl_BackOfLines_L0 ls n out v32)))) :
 Exec VC ps_impl_BackOfLines (b_impl_BackOfLines_L0 gq0 gq1 gq2 gq3 gq4) (h_impl_BackOfLines_L0 ls n out v32) e_ σ_ := evL_of (lv := lv_impl_BackOfLines_L0) (rs := [4, 5]) (O := ⟨oc_impl_BackOfLines ls n, fun id σ => match id with | 2 => some (lv_impl_BackOfLines_L2, .leaf (.normal, h_impl_BackOfLines_L2 ls n out v32 (bkS ls n v32.toNat ls.length) ls.length)) | _ => none⟩) (by kernel_rfl) ht

theorem q_impl_BackOfLines_L2 {VC : FuncId → List AV → AV → Prop} {gq0 gq1 gq2 gq3 gq4 : FuncId} (ls : LC) (n : Nat) (out : List Nat) (v32 : Int) (sum : Nat) (v37 : Int) {e_ : Ex} {σ_ : Env} (ht : T.ok (fun x_ => x_ = (e_, σ_)) (
 T.ite (decide (v37 < (↑(List.length ls) : Int)))
 (T.ob (0 ≤ v37 ∧ v37 < (↑(List.length ls) : Int))
 (T.ob True
 (T.ob True
 (T.ob True
 (T.ob
 (VC gq2 [AV.f .f64 (fdiv .f64 (fofi .f64 (wrap .i64 (v37 * v32))) (fofi .f64 (↑n : Int)))]
 (AV.c .f32 (Prod.fst (phM (fdiv .f64 (fofi .f64 (wrap .i64 (v37 * v32))) (fofi .f64 (↑n : Int)))))
 (Prod.snd (phM (fdiv .f64 (fofi .f64 (wrap .i64 (v37 * v32))) (fofi .f64 (↑n : Int)))))))
 (T.ob
 (VC gq3
 [AV.c .f32 (Prod.fst (List.getD ls (Int.toNat v37) (0, 0))) (Prod.snd (List.getD ls (Int.toNat v37) (0, 0))),
 AV.c .f32 (Prod.fst (phM (fdiv .f64 (fofi .f64 (wrap .i64 (v37 * v32))) (fofi .f64 (↑n : Int)))))
 (Prod.snd (phM (fdiv .f64 (fofi .f64 (wrap .i64 (v37 * v32))) (fofi .f64 (↑n : Int)))))]
 (AV.c .f32
 (dn
 (muU (Prod.fst (List.getD ls (Int.toNat v37) (0, 0))) (Prod.snd (List.getD ls (Int.toNat v37) (0, 0)))
 (Prod.fst (phM (fdiv .f64 (fofi .f64 (wrap .i64 (v37 * v32))) (fofi .f64 (↑n : Int)))))
 (Prod.snd (phM (fdiv .f64 (fofi .f64 (wrap .i64 (v37 * v32))) (fofi .f64 (↑n : Int)))))))
 (dn
 (muV (Prod.fst (List.getD ls (Int.toNat v37) (0, 0))) (Prod.snd (List.getD ls (Int.toNat v37) (0, 0)))
 (Prod.fst (phM (fdiv .f64 (fofi .f64 (wrap .i64 (v37 * v32))) (fofi .f64 (↑n : Int)))))
 (Prod.snd (phM (fdiv .f64 (fofi .f64 (wrap .i64 (v37 * v32))) (fofi .f64 (↑n : Int)))))))))
 (T.ite (v37 != 0)
 (T.ite (wrap .i64 (2 * v37) != (↑n : Int))
 (T.leaf
 (Ex.normal,
 h_impl_BackOfLines_L2 ls n out v32
 (fadd .f32 sum
 (fmul .f32
 (dn
 (muU (Prod.fst (List.getD ls (Int.toNat v37) (0, 0))) (Prod.snd (List.getD ls (Int.toNat v37) (0, 0)))
 (Prod.fst (phM (fdiv .f64 (fofi .f64 (wrap .i64 (v37 * v32))) (fofi .f64 (↑n : Int)))))
 (Prod.snd (phM (fdiv .f64 (fofi .f64 (wrap .i64 (v37 * v32))) (fofi .f64 (↑n : Int)))))))
 1073741824))
 (wrap .i64 (v37 + 1))))
 (T.leaf
 (Ex.normal,
 h_impl_BackOfLines_L2 ls n out v32
 (fadd .f32 sum
 (dn
 (muU (Prod.fst (List.getD ls (Int.toNat v37) (0, 0))) (Prod.snd (List.getD ls (Int.toNat v37) (0, 0)))
 (Prod.fst (phM (fdiv .f64 (fofi .f64 (wrap .i64 (v37 * v32))) (fofi .f64 (↑n : Int)))))
 (Prod.snd (phM (fdiv .f64 (fofi .f64 (wrap .i64 (v37 * v32))) (fofi .f64 (↑n : Int))))))))
 (wrap .i64 (v37 + 1)))))
 (T.leaf
 (Ex.normal,
 h_impl_BackOfLines_L2 ls n out v32
 (fadd .f32 sum
 (dn
 (muU (Prod.fst (List.getD ls (Int.toNat v37) (0, 0))) (Prod.snd (List.getD ls (Int.toNat v37) (0, 0)))
 (Prod.fst (phM (fdiv .f64 (fofi .f64 (wrap .i64 (v37 * v32))) (fofi .f64 (↑n : Int)))))
 (Prod.snd (phM (fdiv .f64 (fofi .f64 (wrap .i64 (v37 * v32))) (fofi .f64 (↑n : Int))))))))
 (wrap .i64 (v37 + 1)))))))))))
 (T.leaf (Ex.exit 2, h_impl_BackOfLines_L2 ls n out v32 sum v37)))) :
 Exec VC ps_impl_BackOfLines (b_impl_BackOfLines_L2 gq0 gq1 gq2 gq3 gq4) (h_impl_BackOfLines_L2 ls n out v32 sum v37) e_ σ_ := evL_of (lv := lv_impl_BackOfLines_L2) (rs := [4, 5]) (O := ⟨oc_impl_BackOfLines ls n, fun _ _ => none⟩) (by kernel_rfl) ht

theorem q_impl_BackOfLines {P : Program} {g_f : FuncId} {gq0 gq1 gq2 gq3 gq4 : FuncId} (h_ : Is_impl_BackOfLines P g_f gq0 gq1 gq2 gq3 gq4) (ls : LC) (n : Nat) (ht : T.ok (fun x_ => x_ = .tup [OS 0 .f32 (ifAllM (bkM ls n n)), .b (finAllM (bkM ls n n))]) (
 T.ob ((VCall P) gq0 [AV.i .i64 (↑n : Int), AV.i .i64 1, AV.i .i64 96] (AV.b (inM (↑n : Int) 1 96)))
 (T.ite (!inM (↑n : Int) 1 96) (T.leaf (AV.tup [AV.sl (Tag.own 0) 0 (Cont.f .f32 []), AV.b false]))
 (T.ob ((2 : Int) ≠ 0)
 (T.ite ((↑(List.length ls) : Int) != wrap .i64 (wrap .i64 (Int.tdiv (↑n : Int) 2) + 1)) (T.leaf (AV.tup [AV.sl (Tag.own 0) 0 (Cont.f .f32 []), AV.b false]))
 (T.ob ((VCall P) gq1 [AV.sl (Tag.par [0]) 0 (Cont.c .f32 ls)] (AV.b (finAllC ls)))
 (T.ite (!finAllC ls) (T.leaf (AV.tup [AV.sl (Tag.own 0) 0 (Cont.f .f32 []), AV.b false]))
 (T.ob
 (Exec (VCall P) ps_impl_BackOfLines (VCode.block 0 (VCode.loop (b_impl_BackOfLines_L0 gq0 gq1 gq2 gq3 gq4))) (h_impl_BackOfLines_L0 ls n [] 0) Ex.normal
 (h_impl_BackOfLines_L0 ls n (bkM ls n n) (↑n : Int)))
 (T.ob ((VCall P) gq4 [AV.sl (Tag.par [0]) 0 (Cont.f .f32 (bkM ls n n))] (AV.tup [AV.sl (Tag.par [0]) 0 (Cont.f .f32 (ifAllM (bkM ls n n))), AV.b (finAllM (bkM ls n n))]))
 (T.leaf (AV.tup [AV.sl (Tag.own 0) 0 (Cont.f .f32 (ifAllM (bkM ls n n))), AV.b (finAllM (bkM ls n n))]))))))))))) :
 VCall P g_f [PC [0] ls, .i .i64 n] (.tup [OS 0 .f32 (ifAllM (bkM ls n n)), .b (finAllM (bkM ls n n))]) := h_.call_of ps_impl_BackOfLines ⟨oc_impl_BackOfLines ls n, fun id σ => match id with | 0 => some (lv_impl_BackOfLines_L0, .leaf (.normal, h_impl_BackOfLines_L0 ls n (bkM ls n n) n)) | _ => none⟩ (by kernel_rfl) ht

-- END impl_BackOfLines

def lpM (a : List Nat) (m : Nat) : List Nat := tab m fun k => fdiv .f32 (dn (pwW (lnM a k a.length).1 (lnM a k a.length).2)) (fofi .f32 a.length)
-- FN impl_LinePowers
def ps_impl_LinePowers : List Nat := [0, 2, 3, 4, 5, 6, 8, 15, 17, 18, 19, 20]
def lv_impl_LinePowers_L0 : List Nat := [0, 6, 17, 18, 19]
def b_impl_LinePowers_L0 (gq0 gq1 gq2 : FuncId) : VCode :=
 (.seq
 (.region false [
 ⟨some 20, (.bin .lss), [.t 19, .t 18], none⟩])
 (.seq
 (.cond (.t 20)
 .skip
 (.exit 0))
 (.seq
 (.block 1
 (.seq
 (.region false [
 ⟨some 21, .iaddr, [.t 17, .t 19], none⟩,
 ⟨some 22, .load, [.t 21], none⟩,
 ⟨some 8, .mv, [.t 22], none⟩])
 (.region false [
 ⟨some 23, .mv, [.t 6], none⟩,
 ⟨some 24, .mv, [.t 8], none⟩,
 ⟨some 25, (.call gq1), [.t 24], none⟩,
 ⟨some 26, .mv, [.t 0], none⟩,
 ⟨some 27, .len, [.t 26], none⟩,
 ⟨some 28, (.convF .f32), [.t 27], none⟩,
 ⟨some 29, (.bin .quo), [.t 25, .t 28], none⟩,
 ⟨some 30, (.lit true (.f .f32 [])), [.t 29], none⟩,
 ⟨some 31, .app, [.t 23, .t 30], none⟩,
 ⟨some 6, .mv, [.t 31], none⟩])))
 (.region false [
 ⟨some 32, (.bin .add), [.t 19, .k (.i .i64 1)], none⟩,
 ⟨some 19, .mv, [.t 32], none⟩]))))

def b_impl_LinePowers (gq0 gq1 gq2 : FuncId) : VCode :=
 (.seq
 (.region false [
 ⟨some 2, (.nilsl (.f .f32 [])), [], none⟩,
 ⟨some 3, .mv, [.k (.b false)], none⟩])
 (.seq
 (.region false [
 ⟨some 10, .mv, [.t 0], none⟩,
 ⟨some 11, (.call gq0), [.t 10], none⟩,
 ⟨some 9, .mv, [.t 11], none⟩,
 ⟨some 12, (.extract 0), [.t 9], none⟩,
 ⟨some 13, (.extract 1), [.t 9], none⟩,
 ⟨some 4, .mv, [.t 12], none⟩,
 ⟨some 5, .mv, [.t 13], none⟩])
 (.seq
 (.seq
 (.region false [
 ⟨some 14, .mv, [.t 5], none⟩,
 ⟨some 15, .not, [.t 14], none⟩])
 (.cond (.t 15)
 (.seq
 (.region false [
 ⟨some 2, (.nilsl (.f .f32 [])), [], none⟩,
 ⟨some 3, .mv, [.k (.b false)], none⟩])
 .ret)
 .skip))
 (.seq
 (.region false [
 ⟨some 16, (.lit true (.f .f32 [])), [], none⟩,
 ⟨some 6, .mv, [.t 16], none⟩])
 (.seq
 (.seq
 (.region false [
 ⟨some 17, .mv, [.t 4], none⟩,
 ⟨some 18, .len, [.t 17], none⟩,
 ⟨some 19, .mv, [.k (.i .i64 0)], none⟩])
 (.block 0 (.loop (b_impl_LinePowers_L0 gq0 gq1 gq2))))
 (.seq
 (.region false [
 ⟨some 33, .mv, [.t 6], none⟩,
 ⟨some 34, (.call gq2), [.t 33], none⟩,
 ⟨some 35, (.extract 0), [.t 34], none⟩,
 ⟨some 36, (.extract 1), [.t 34], none⟩,
 ⟨some 2, .mv, [.t 35], none⟩,
 ⟨some 3, .mv, [.t 36], none⟩])
 .ret))))))

abbrev Is_impl_LinePowers (P : Program) (g_f : FuncId) (gq0 gq1 gq2 : FuncId) : Prop := FnIs P g_f 37 [.t 2, .t 3] (b_impl_LinePowers gq0 gq1 gq2)

abbrev C_impl_LinePowers (P : Program) (g_f : FuncId) : Prop := ∀ (a : List Nat) (ho : lnsOk a = true) (hp : ∀ k : Nat, k < a.length / 2 + 1 → fconvOk .f64 .f32 (pwW (lnM a k a.length).1 (lnM a k a.length).2) = true), VCall P g_f [PS [0] .f32 a] (.tup [OS 0 .f32 (ifAllM (lpM a (a.length / 2 + 1))), .b (finAllM (lpM a (a.length / 2 + 1)))])
def oc_impl_LinePowers (a : List Nat) (d : Nat) (as : List AV) : T AV := match d with | 11 => .leaf (.tup [OC 0 (lnsM a (a.length / 2 + 1)), .b true]) | 25 => oc1_impl_PowerOf as | 34 => oc1_impl_ifAll as | _ => .fail
def h_impl_LinePowers_L0 (a : List Nat) (out : List Nat) (v17 : LC) (v19 : Int) : Env := [AV.sl (Tag.par [0]) 0 (Cont.f .f32 a)] ++ anys 5 ++ [.sl (Tag.own 128) 0 (.f .f32 out)] ++ anys 10 ++ [.sl (Tag.own 88) 0 (.c .f32 v17), AV.i .i64 (↑(List.length (lnsM a (List.length a / 2 + 1))) : Int), .i .i64 v19] ++ anys 17

theorem q_impl_LinePowers_L0 {VC : FuncId → List AV → AV → Prop} {gq0 gq1 gq2 : FuncId} (a : List Nat) (out : List Nat) (v17 : LC) (v19 : Int) {e_ : Ex} {σ_ : Env} (ht : T.ok (fun x_ => x_ = (e_, σ_)) (
 T.ite (decide (v19 < (↑(List.length (lnsM a (List.length a / 2 + 1))) : Int)))
 (T.ob (0 ≤ v19 ∧ v19 < (↑(List.length v17) : Int))
 (T.ob
 (VC gq1 [AV.c .f32 (Prod.fst (List.getD v17 (Int.toNat v19) (0, 0))) (Prod.snd (List.getD v17 (Int.toNat v19) (0, 0)))]
 (AV.f .f32 (dn (pwW (Prod.fst (List.getD v17 (Int.toNat v19) (0, 0))) (Prod.snd (List.getD v17 (Int.toNat v19) (0, 0)))))))
 (T.ob True
 (T.ob True
 (T.ob
 (List.length out +
 List.length [fdiv .f32 (dn (pwW (Prod.fst (List.getD v17 (Int.toNat v19) (0, 0))) (Prod.snd (List.getD v17 (Int.toNat v19) (0, 0))))) (fofi .f32 (↑(List.length a) : Int))] ≤
 4294967296)
 (T.leaf
 (Ex.normal,
 h_impl_LinePowers_L0 a
 (out ++ [fdiv .f32 (dn (pwW (Prod.fst (List.getD v17 (Int.toNat v19) (0, 0))) (Prod.snd (List.getD v17 (Int.toNat v19) (0, 0))))) (fofi .f32 (↑(List.length a) : Int))]) v17
 (wrap .i64 (v19 + 1)))))))))
 (T.leaf (Ex.exit 0, h_impl_LinePowers_L0 a out v17 v19)))) :
 Exec VC ps_impl_LinePowers (b_impl_LinePowers_L0 gq0 gq1 gq2) (h_impl_LinePowers_L0 a out v17 v19) e_ σ_ := evL_of (lv := lv_impl_LinePowers_L0) (rs := [2, 3]) (O := ⟨oc_impl_LinePowers a, fun _ _ => none⟩) (by kernel_rfl) ht

theorem q_impl_LinePowers {P : Program} {g_f : FuncId} {gq0 gq1 gq2 : FuncId} (h_ : Is_impl_LinePowers P g_f gq0 gq1 gq2) (a : List Nat) (ht : T.ok (fun x_ => x_ = .tup [OS 0 .f32 (ifAllM (lpM a (a.length / 2 + 1))), .b (finAllM (lpM a (a.length / 2 + 1)))]) (
 T.ob ((VCall P) gq0 [AV.sl (Tag.par [0]) 0 (Cont.f .f32 a)] (AV.tup [AV.sl (Tag.own 0) 0 (Cont.c .f32 (lnsM a (List.length a / 2 + 1))), AV.b true]))
 (T.ite false (T.leaf (AV.tup [AV.sl (Tag.own 0) 0 (Cont.f .f32 []), AV.b false]))
 (T.ob
 (Exec (VCall P) ps_impl_LinePowers (VCode.block 0 (VCode.loop (b_impl_LinePowers_L0 gq0 gq1 gq2))) (h_impl_LinePowers_L0 a [] (lnsM a (List.length a / 2 + 1)) 0) Ex.normal
 (h_impl_LinePowers_L0 a (lpM a (List.length a / 2 + 1)) (lnsM a (List.length a / 2 + 1)) (↑(List.length a / 2 + 1) : Int)))
 (T.ob
 ((VCall P) gq2 [AV.sl (Tag.par [0]) 0 (Cont.f .f32 (lpM a (List.length a / 2 + 1)))]
 (AV.tup [AV.sl (Tag.par [0]) 0 (Cont.f .f32 (ifAllM (lpM a (List.length a / 2 + 1)))), AV.b (finAllM (lpM a (List.length a / 2 + 1)))]))
 (T.leaf (AV.tup [AV.sl (Tag.own 0) 0 (Cont.f .f32 (ifAllM (lpM a (List.length a / 2 + 1)))), AV.b (finAllM (lpM a (List.length a / 2 + 1)))]))))))) :
 VCall P g_f [PS [0] .f32 a] (.tup [OS 0 .f32 (ifAllM (lpM a (a.length / 2 + 1))), .b (finAllM (lpM a (a.length / 2 + 1)))]) := h_.call_of ps_impl_LinePowers ⟨oc_impl_LinePowers a, fun id σ => match id with | 0 => some (lv_impl_LinePowers_L0, .leaf (.normal, h_impl_LinePowers_L0 a (lpM a (a.length / 2 + 1)) (lnsM a (a.length / 2 + 1)) (a.length / 2 + 1 : Nat))) | _ => none⟩ (by kernel_rfl) ht

-- END impl_LinePowers

-- FN impl_LeadOf
def ps_impl_LeadOf : List Nat := [0, 1, 2, 6, 7, 8, 9, 10, 22, 42]
def b_impl_LeadOf (gq0 gq1 gq2 gq3 gq4 gq5 gq6 gq7 : FuncId) : VCode :=
 (.seq
 (.region false [
 ⟨some 6, .mv, [.k (.f .f32 0)], none⟩,
 ⟨some 7, .mv, [.k (.b false)], none⟩])
 (.seq
 (.seq
 (.region false [
 ⟨some 11, .mv, [.t 0], none⟩,
 ⟨some 12, .mv, [.t 1], none⟩,
 ⟨some 13, (.call gq0), [.t 11, .t 12], none⟩,
 ⟨some 14, .not, [.t 13], none⟩,
 ⟨some 15, .mv, [.t 14], none⟩,
 ⟨some 16, .mv, [.t 2], some (15, false)⟩,
 ⟨some 17, .mv, [.t 0], some (15, false)⟩,
 ⟨some 18, .len, [.t 17], some (15, false)⟩,
 ⟨some 19, (.bin .quo), [.t 18, .k (.i .i64 2)], some (15, false)⟩,
 ⟨some 20, (.call gq1), [.t 16, .k (.i .i64 0), .t 19], some (15, false)⟩,
 ⟨some 21, .not, [.t 20], some (15, false)⟩,
 ⟨some 22, .pick, [.t 15, .k (.b true), .t 21], none⟩])
 (.cond (.t 22)
 (.seq
 (.region false [
 ⟨some 6, .mv, [.k (.f .f32 0)], none⟩,
 ⟨some 7, .mv, [.k (.b false)], none⟩])
 .ret)
 .skip))
 (.seq
 (.region false [
 ⟨some 23, .mv, [.t 0], none⟩,
 ⟨some 24, .mv, [.t 2], none⟩,
 ⟨some 25, (.call gq2), [.t 23, .t 24], none⟩,
 ⟨some 26, .mv, [.t 1], none⟩,
 ⟨some 27, .mv, [.t 2], none⟩,
 ⟨some 28, (.call gq2), [.t 26, .t 27], none⟩,
 ⟨some 8, .mv, [.t 25], none⟩,
 ⟨some 9, .mv, [.t 28], none⟩])
 (.seq
 (.region false [
 ⟨some 29, .mv, [.t 8], none⟩,
 ⟨some 30, .mv, [.t 9], none⟩,
 ⟨some 31, (.call gq3), [.t 30], none⟩,
 ⟨some 32, (.call gq4), [.t 29, .t 31], none⟩,
 ⟨some 10, .mv, [.t 32], none⟩])
 (.seq
 (.seq
 (.region false [
 ⟨some 33, .mv, [.t 8], none⟩,
 ⟨some 34, .mv, [.t 9], none⟩,
 ⟨some 35, .mv, [.t 10], none⟩,
 ⟨some 36, (.lit true (.c .f32 [])), [.t 33, .t 34, .t 35], none⟩,
 ⟨some 37, (.call gq5), [.t 36], none⟩,
 ⟨some 38, .not, [.t 37], none⟩,
 ⟨some 39, .mv, [.t 38], none⟩,
 ⟨some 40, .mv, [.t 10], some (39, false)⟩,
 ⟨some 41, (.bin .eql), [.t 40, .k (.c .f32 0 0)], some (39, false)⟩,
 ⟨some 42, .pick, [.t 39, .k (.b true), .t 41], none⟩])
 (.cond (.t 42)
 (.seq
 (.region false [
 ⟨some 6, .mv, [.k (.f .f32 0)], none⟩,
 ⟨some 7, .mv, [.k (.b false)], none⟩])
 .ret)
 .skip))
 (.seq
 (.region false [
 ⟨some 43, .mv, [.t 10], none⟩,
 ⟨some 44, (.call gq6), [.t 43], none⟩,
 ⟨some 45, (.call gq7), [.t 44], none⟩,
 ⟨some 46, (.extract 0), [.t 45], none⟩,
 ⟨some 47, (.extract 1), [.t 45], none⟩,
 ⟨some 6, .mv, [.t 46], none⟩,
 ⟨some 7, .mv, [.t 47], none⟩])
 .ret))))))

abbrev Is_impl_LeadOf (P : Program) (g_f : FuncId) (gq0 gq1 gq2 gq3 gq4 gq5 gq6 gq7 : FuncId) : Prop := FnIs P g_f 48 [.t 6, .t 7] (b_impl_LeadOf gq0 gq1 gq2 gq3 gq4 gq5 gq6 gq7)

abbrev C_impl_LeadOf (P : Program) (g_f : FuncId) : Prop := ∀ (a : List Nat) (k : Int) (u : Nat) (v : Nat) (p : Nat) (q : Nat) (ha : seriesM a = true) (hk : 0 ≤ k ∧ k ≤ (a.length / 2 : Nat)) (he : lnM a k a.length = (u, v)) (hu : fconvOk .f64 .f32 (muU u v u (fneg .f32 v)) = true) (hv : fconvOk .f64 .f32 (muV u v u (fneg .f32 v)) = true) (hp : dn (muU u v u (fneg .f32 v)) = p) (hq : dn (muV u v u (fneg .f32 v)) = q) (hl : sf u ∧ sf v) (hs : sf p ∧ 0 ≤ sv p) (hy : q = 0 ∨ q = 2147483648), VCall P g_f [PS [0] .f32 a, PS [1] .f32 a, .i .i64 k] (.tup [.f .f32 0, .b (fgt .f32 p 0)])
def oc_impl_LeadOf (a : List Nat) (k : Int) (u : Nat) (v : Nat) (p : Nat) (q : Nat) (d : Nat) (as : List AV) : T AV := match d with | 13 => oc1_impl_areTwo as | 20 => oc1_impl_within as | 25 => .leaf (.c .f32 u v) | 28 => .leaf (.c .f32 u v) | 31 => oc1_impl_ConjugateOf as | 32 => .leaf (.c .f32 p q) | 37 => .leaf (.b true) | 44 => .leaf (.f .f32 0) | 45 => oc1_impl_ifFinite as | _ => .fail



theorem q_impl_LeadOf {P : Program} {g_f : FuncId} {gq0 gq1 gq2 gq3 gq4 gq5 gq6 gq7 : FuncId} (h_ : Is_impl_LeadOf P g_f gq0 gq1 gq2 gq3 gq4 gq5 gq6 gq7) (a : List Nat) (k : Int) (u : Nat) (v : Nat) (p : Nat) (q : Nat) (ht : T.ok (fun x_ => x_ = .tup [.f .f32 0, .b (fgt .f32 p 0)]) (
 T.ob ((VCall P) gq0 [AV.sl (Tag.par [0]) 0 (Cont.f .f32 a), AV.sl (Tag.par [1]) 0 (Cont.f .f32 a)] (AV.b (twoM a a)))
 (T.ite (!twoM a a) (T.leaf (AV.tup [AV.f .f32 0, AV.b false]))
 (T.ob ((2 : Int) ≠ 0)
 (T.ob
 ((VCall P) gq1 [AV.i .i64 k, AV.i .i64 0, AV.i .i64 (wrap .i64 (Int.tdiv (↑(List.length a) : Int) 2))]
 (AV.b (inM k 0 (wrap .i64 (Int.tdiv (↑(List.length a) : Int) 2)))))
 (T.ite (!inM k 0 (wrap .i64 (Int.tdiv (↑(List.length a) : Int) 2))) (T.leaf (AV.tup [AV.f .f32 0, AV.b false]))
 (T.ob ((VCall P) gq2 [AV.sl (Tag.par [0]) 0 (Cont.f .f32 a), AV.i .i64 k] (AV.c .f32 u v))
 (T.ob ((VCall P) gq2 [AV.sl (Tag.par [0]) 0 (Cont.f .f32 a), AV.i .i64 k] (AV.c .f32 u v))
 (T.ob ((VCall P) gq3 [AV.c .f32 u v] (AV.c .f32 u (fneg .f32 v)))
 (T.ob ((VCall P) gq4 [AV.c .f32 u v, AV.c .f32 u (fneg .f32 v)] (AV.c .f32 p q))
 (T.ob ((VCall P) gq5 [AV.sl (Tag.par [0]) 0 (Cont.c .f32 [(u, v), (u, v), (p, q)])] (AV.b true))
 (T.ite false (T.leaf (AV.tup [AV.f .f32 0, AV.b false]))
 (T.ite (feq .f32 p 0 && feq .f32 q 0) (T.leaf (AV.tup [AV.f .f32 0, AV.b false]))
 (T.ob ((VCall P) gq6 [AV.c .f32 p q] (AV.f .f32 0))
 (T.ob ((VCall P) gq7 [AV.f .f32 0] (AV.tup [AV.f .f32 0, AV.b true])) (T.leaf (AV.tup [AV.f .f32 0, AV.b true]))))))))))))))))) :
 VCall P g_f [PS [0] .f32 a, PS [1] .f32 a, .i .i64 k] (.tup [.f .f32 0, .b (fgt .f32 p 0)]) := h_.call_of ps_impl_LeadOf ⟨oc_impl_LeadOf a k u v p q, fun _ _ => none⟩ (by kernel_rfl) ht

-- END impl_LeadOf
-- FN spec_LeadOf
def ps_spec_LeadOf : List Nat := [0, 1, 2, 6, 7, 8, 9, 10, 22, 36, 47]
def b_spec_LeadOf (gq0 gq1 gq2 gq3 gq4 gq5 gq6 : FuncId) : VCode :=
 (.seq
 (.region false [
 ⟨some 6, .mv, [.k (.f .f32 0)], none⟩,
 ⟨some 7, .mv, [.k (.b false)], none⟩])
 (.seq
 (.seq
 (.region false [
 ⟨some 11, .mv, [.t 0], none⟩,
 ⟨some 12, .mv, [.t 1], none⟩,
 ⟨some 13, (.call gq0), [.t 11, .t 12], none⟩,
 ⟨some 14, .not, [.t 13], none⟩,
 ⟨some 15, .mv, [.t 14], none⟩,
 ⟨some 16, .mv, [.t 2], some (15, false)⟩,
 ⟨some 17, .mv, [.t 0], some (15, false)⟩,
 ⟨some 18, .len, [.t 17], some (15, false)⟩,
 ⟨some 19, (.bin .quo), [.t 18, .k (.i .i64 2)], some (15, false)⟩,
 ⟨some 20, (.call gq1), [.t 16, .k (.i .i64 0), .t 19], some (15, false)⟩,
 ⟨some 21, .not, [.t 20], some (15, false)⟩,
 ⟨some 22, .pick, [.t 15, .k (.b true), .t 21], none⟩])
 (.cond (.t 22)
 (.seq
 (.region false [
 ⟨some 6, .mv, [.k (.f .f32 0)], none⟩,
 ⟨some 7, .mv, [.k (.b false)], none⟩])
 .ret)
 .skip))
 (.seq
 (.region false [
 ⟨some 23, .mv, [.t 0], none⟩,
 ⟨some 24, .mv, [.t 2], none⟩,
 ⟨some 25, (.call gq2), [.t 23, .t 24], none⟩,
 ⟨some 8, .mv, [.t 25], none⟩])
 (.seq
 (.region false [
 ⟨some 26, .mv, [.t 1], none⟩,
 ⟨some 27, .mv, [.t 2], none⟩,
 ⟨some 28, (.call gq2), [.t 26, .t 27], none⟩,
 ⟨some 9, .mv, [.t 28], none⟩])
 (.seq
 (.seq
 (.region false [
 ⟨some 29, .mv, [.t 8], none⟩,
 ⟨some 30, (.call gq3), [.t 29], none⟩,
 ⟨some 31, .not, [.t 30], none⟩,
 ⟨some 32, .mv, [.t 31], none⟩,
 ⟨some 33, .mv, [.t 9], some (32, false)⟩,
 ⟨some 34, (.call gq3), [.t 33], some (32, false)⟩,
 ⟨some 35, .not, [.t 34], some (32, false)⟩,
 ⟨some 36, .pick, [.t 32, .k (.b true), .t 35], none⟩])
 (.cond (.t 36)
 (.seq
 (.region false [
 ⟨some 6, .mv, [.k (.f .f32 0)], none⟩,
 ⟨some 7, .mv, [.k (.b false)], none⟩])
 .ret)
 .skip))
 (.seq
 (.region false [
 ⟨some 37, .mv, [.t 8], none⟩,
 ⟨some 38, .mv, [.t 9], none⟩,
 ⟨some 39, (.call gq4), [.t 38], none⟩,
 ⟨some 40, (.call gq5), [.t 37, .t 39], none⟩,
 ⟨some 10, .mv, [.t 40], none⟩])
 (.seq
 (.seq
 (.region false [
 ⟨some 41, .mv, [.t 10], none⟩,
 ⟨some 42, (.call gq3), [.t 41], none⟩,
 ⟨some 43, .not, [.t 42], none⟩,
 ⟨some 44, .mv, [.t 43], none⟩,
 ⟨some 45, .mv, [.t 10], some (44, false)⟩,
 ⟨some 46, (.bin .eql), [.t 45, .k (.c .f32 0 0)], some (44, false)⟩,
 ⟨some 47, .pick, [.t 44, .k (.b true), .t 46], none⟩])
 (.cond (.t 47)
 (.seq
 (.region false [
 ⟨some 6, .mv, [.k (.f .f32 0)], none⟩,
 ⟨some 7, .mv, [.k (.b false)], none⟩])
 .ret)
 .skip))
 (.seq
 (.region false [
 ⟨some 48, .mv, [.t 10], none⟩,
 ⟨some 49, (.call gq6), [.t 48], none⟩,
 ⟨some 6, .mv, [.t 49], none⟩,
 ⟨some 7, .mv, [.k (.b true)], none⟩])
 .ret))))))))

abbrev Is_spec_LeadOf (P : Program) (g_f : FuncId) (gq0 gq1 gq2 gq3 gq4 gq5 gq6 : FuncId) : Prop := FnIs P g_f 50 [.t 6, .t 7] (b_spec_LeadOf gq0 gq1 gq2 gq3 gq4 gq5 gq6)

abbrev C_spec_LeadOf (P : Program) (g_f : FuncId) : Prop := ∀ (a : List Nat) (k : Int) (u : Nat) (v : Nat) (p : Nat) (q : Nat) (ha : seriesM a = true) (hk : 0 ≤ k ∧ k ≤ (a.length / 2 : Nat)) (he : lnM a k a.length = (u, v)) (hu : fconvOk .f64 .f32 (muU u v u (fneg .f32 v)) = true) (hv : fconvOk .f64 .f32 (muV u v u (fneg .f32 v)) = true) (hp : dn (muU u v u (fneg .f32 v)) = p) (hq : dn (muV u v u (fneg .f32 v)) = q) (hl : sf u ∧ sf v) (hs : sf p ∧ 0 ≤ sv p) (hy : q = 0 ∨ q = 2147483648), VCall P g_f [PS [0] .f32 a, PS [1] .f32 a, .i .i64 k] (.tup [.f .f32 0, .b (fgt .f32 p 0)])
def oc_spec_LeadOf (a : List Nat) (k : Int) (u : Nat) (v : Nat) (p : Nat) (q : Nat) (d : Nat) (as : List AV) : T AV := match d with | 13 => oc1_spec_l03Pair as | 20 => oc1_spec_l00In as | 25 => .leaf (.c .f32 u v) | 28 => .leaf (.c .f32 u v) | 30 => .leaf (.b true) | 34 => .leaf (.b true) | 39 => oc1_spec_l01Conj as | 40 => .leaf (.c .f32 p q) | 42 => .leaf (.b true) | 49 => .leaf (.f .f32 0) | _ => .fail



theorem q_spec_LeadOf {P : Program} {g_f : FuncId} {gq0 gq1 gq2 gq3 gq4 gq5 gq6 : FuncId} (h_ : Is_spec_LeadOf P g_f gq0 gq1 gq2 gq3 gq4 gq5 gq6) (a : List Nat) (k : Int) (u : Nat) (v : Nat) (p : Nat) (q : Nat) (ht : T.ok (fun x_ => x_ = .tup [.f .f32 0, .b (fgt .f32 p 0)]) (
 T.ob ((VCall P) gq0 [AV.sl (Tag.par [0]) 0 (Cont.f .f32 a), AV.sl (Tag.par [1]) 0 (Cont.f .f32 a)] (AV.b (twoM a a)))
 (T.ite (!twoM a a) (T.leaf (AV.tup [AV.f .f32 0, AV.b false]))
 (T.ob ((2 : Int) ≠ 0)
 (T.ob
 ((VCall P) gq1 [AV.i .i64 k, AV.i .i64 0, AV.i .i64 (wrap .i64 (Int.tdiv (↑(List.length a) : Int) 2))]
 (AV.b (inM k 0 (wrap .i64 (Int.tdiv (↑(List.length a) : Int) 2)))))
 (T.ite (!inM k 0 (wrap .i64 (Int.tdiv (↑(List.length a) : Int) 2))) (T.leaf (AV.tup [AV.f .f32 0, AV.b false]))
 (T.ob ((VCall P) gq2 [AV.sl (Tag.par [0]) 0 (Cont.f .f32 a), AV.i .i64 k] (AV.c .f32 u v))
 (T.ob ((VCall P) gq2 [AV.sl (Tag.par [0]) 0 (Cont.f .f32 a), AV.i .i64 k] (AV.c .f32 u v))
 (T.ob ((VCall P) gq3 [AV.c .f32 u v] (AV.b true))
 (T.ite false (T.leaf (AV.tup [AV.f .f32 0, AV.b false]))
 (T.ob ((VCall P) gq3 [AV.c .f32 u v] (AV.b true))
 (T.ite false (T.leaf (AV.tup [AV.f .f32 0, AV.b false]))
 (T.ob ((VCall P) gq4 [AV.c .f32 u v] (AV.c .f32 u (fneg .f32 v)))
 (T.ob ((VCall P) gq5 [AV.c .f32 u v, AV.c .f32 u (fneg .f32 v)] (AV.c .f32 p q))
 (T.ob ((VCall P) gq3 [AV.c .f32 p q] (AV.b true))
 (T.ite false (T.leaf (AV.tup [AV.f .f32 0, AV.b false]))
 (T.ite (feq .f32 p 0 && feq .f32 q 0) (T.leaf (AV.tup [AV.f .f32 0, AV.b false]))
 (T.ob ((VCall P) gq6 [AV.c .f32 p q] (AV.f .f32 0)) (T.leaf (AV.tup [AV.f .f32 0, AV.b true])))))))))))))))))))) :
 VCall P g_f [PS [0] .f32 a, PS [1] .f32 a, .i .i64 k] (.tup [.f .f32 0, .b (fgt .f32 p 0)]) := h_.call_of ps_spec_LeadOf ⟨oc_spec_LeadOf a k u v p q, fun _ _ => none⟩ (by kernel_rfl) ht

-- END spec_LeadOf

-- FN impl_TogetherOf
def ps_impl_TogetherOf : List Nat := [0, 1, 2, 3, 8, 9, 10, 11, 12, 13, 14, 15, 16, 17, 33, 42, 46, 70, 90]
def lv_impl_TogetherOf_L0 : List Nat := [0, 1, 3, 10, 11, 12, 13, 14]
def b_impl_TogetherOf_L0 (gq0 gq1 gq2 gq3 gq4 gq5 gq6 gq7 gq8 : FuncId) : VCode :=
 (.seq
 (.seq
 (.region false [
 ⟨some 43, .mv, [.t 14], none⟩,
 ⟨some 44, .mv, [.t 0], none⟩,
 ⟨some 45, .len, [.t 44], none⟩,
 ⟨some 46, (.bin .lss), [.t 43, .t 45], none⟩])
 (.cond (.t 46)
 .skip
 (.exit 0)))
 (.seq
 (.block 1
 (.seq
 (.region true [
 ⟨some 50, .mv, [.t 0], none⟩,
 ⟨some 51, .mv, [.t 14], none⟩,
 ⟨some 52, .mv, [.t 14], none⟩,
 ⟨some 53, .mv, [.t 10], none⟩,
 ⟨some 54, (.bin .add), [.t 52, .t 53], none⟩,
 ⟨some 55, (.slice true true false), [.t 50, .t 51, .t 54], none⟩,
 ⟨some 56, .mv, [.t 3], none⟩,
 ⟨some 57, (.call gq2), [.t 55, .t 56], none⟩,
 ⟨some 58, .mv, [.t 1], none⟩,
 ⟨some 59, .mv, [.t 14], none⟩,
 ⟨some 60, .mv, [.t 14], none⟩,
 ⟨some 61, .mv, [.t 10], none⟩,
 ⟨some 62, (.bin .add), [.t 60, .t 61], none⟩,
 ⟨some 63, (.slice true true false), [.t 58, .t 59, .t 62], none⟩,
 ⟨some 64, .mv, [.t 3], none⟩,
 ⟨some 65, (.call gq2), [.t 63, .t 64], none⟩,
 ⟨some 15, .mv, [.t 57], none⟩,
 ⟨some 16, .mv, [.t 65], none⟩])
 (.seq
 (.seq
 (.region false [
 ⟨some 66, .mv, [.t 15], none⟩,
 ⟨some 67, .mv, [.t 16], none⟩,
 ⟨some 68, (.lit true (.c .f32 [])), [.t 66, .t 67], none⟩,
 ⟨some 69, (.call gq3), [.t 68], none⟩,
 ⟨some 70, .not, [.t 69], none⟩])
 (.cond (.t 70)
 (.seq
 (.region false [
 ⟨some 8, .mv, [.k (.f .f32 0)], none⟩,
 ⟨some 9, .mv, [.k (.b false)], none⟩])
 .ret)
 .skip))
 (.seq
 (.region false [
 ⟨some 71, .mv, [.t 11], none⟩,
 ⟨some 72, .mv, [.t 15], none⟩,
 ⟨some 73, .mv, [.t 16], none⟩,
 ⟨some 74, (.call gq4), [.t 73], none⟩,
 ⟨some 75, (.call gq5), [.t 72, .t 74], none⟩,
 ⟨some 76, (.call gq6), [.t 71, .t 75], none⟩,
 ⟨some 11, .mv, [.t 76], none⟩])
 (.seq
 (.region false [
 ⟨some 77, .mv, [.t 12], none⟩,
 ⟨some 78, .mv, [.t 15], none⟩,
 ⟨some 79, (.call gq7), [.t 78], none⟩,
 ⟨some 80, (.bin .add), [.t 77, .t 79], none⟩,
 ⟨some 12, .mv, [.t 80], none⟩])
 (.region false [
 ⟨some 81, .mv, [.t 13], none⟩,
 ⟨some 82, .mv, [.t 16], none⟩,
 ⟨some 83, (.call gq7), [.t 82], none⟩,
 ⟨some 84, (.bin .add), [.t 81, .t 83], none⟩,
 ⟨some 13, .mv, [.t 84], none⟩]))))))
 (.region false [
 ⟨some 47, .mv, [.t 14], none⟩,
 ⟨some 48, .mv, [.t 10], none⟩,
 ⟨some 49, (.bin .add), [.t 47, .t 48], none⟩,
 ⟨some 14, .mv, [.t 49], none⟩])))

def b_impl_TogetherOf (gq0 gq1 gq2 gq3 gq4 gq5 gq6 gq7 gq8 : FuncId) : VCode :=
 (.seq
 (.region false [
 ⟨some 8, .mv, [.k (.f .f32 0)], none⟩,
 ⟨some 9, .mv, [.k (.b false)], none⟩])
 (.seq
 (.seq
 (.region false [
 ⟨some 18, .mv, [.t 0], none⟩,
 ⟨some 19, .mv, [.t 1], none⟩,
 ⟨some 20, (.call gq0), [.t 18, .t 19], none⟩,
 ⟨some 21, .not, [.t 20], none⟩,
 ⟨some 22, .mv, [.t 21], none⟩,
 ⟨some 23, .mv, [.t 2], some (22, false)⟩,
 ⟨some 24, (.call gq1), [.t 23, .k (.i .i64 1), .k (.i .i64 16)], some (22, false)⟩,
 ⟨some 25, .not, [.t 24], some (22, false)⟩,
 ⟨some 26, .pick, [.t 22, .k (.b true), .t 25], none⟩,
 ⟨some 27, .mv, [.t 26], none⟩,
 ⟨some 28, .mv, [.t 0], some (27, false)⟩,
 ⟨some 29, .len, [.t 28], some (27, false)⟩,
 ⟨some 30, .mv, [.t 2], some (27, false)⟩,
 ⟨some 31, (.bin .rem), [.t 29, .t 30], some (27, false)⟩,
 ⟨some 32, (.bin .neq), [.t 31, .k (.i .i64 0)], some (27, false)⟩,
 ⟨some 33, .pick, [.t 27, .k (.b true), .t 32], none⟩])
 (.cond (.t 33)
 (.seq
 (.region false [
 ⟨some 8, .mv, [.k (.f .f32 0)], none⟩,
 ⟨some 9, .mv, [.k (.b false)], none⟩])
 .ret)
 .skip))
 (.seq
 (.region false [
 ⟨some 34, .mv, [.t 0], none⟩,
 ⟨some 35, .len, [.t 34], none⟩,
 ⟨some 36, .mv, [.t 2], none⟩,
 ⟨some 37, (.bin .quo), [.t 35, .t 36], none⟩,
 ⟨some 10, .mv, [.t 37], none⟩])
 (.seq
 (.seq
 (.region false [
 ⟨some 38, .mv, [.t 3], none⟩,
 ⟨some 39, .mv, [.t 10], none⟩,
 ⟨some 40, (.bin .quo), [.t 39, .k (.i .i64 2)], none⟩,
 ⟨some 41, (.call gq1), [.t 38, .k (.i .i64 0), .t 40], none⟩,
 ⟨some 42, .not, [.t 41], none⟩])
 (.cond (.t 42)
 (.seq
 (.region false [
 ⟨some 8, .mv, [.k (.f .f32 0)], none⟩,
 ⟨some 9, .mv, [.k (.b false)], none⟩])
 .ret)
 .skip))
 (.seq
 (.region false [
 ⟨some 11, .mv, [.k (.c .f32 0 0)], none⟩])
 (.seq
 (.region false [
 ⟨some 12, .mv, [.k (.f .f32 0)], none⟩,
 ⟨some 13, .mv, [.k (.f .f32 0)], none⟩])
 (.seq
 (.seq
 (.region false [
 ⟨some 14, .mv, [.k (.i .i64 0)], none⟩])
 (.block 0 (.loop (b_impl_TogetherOf_L0 gq0 gq1 gq2 gq3 gq4 gq5 gq6 gq7 gq8))))
 (.seq
 (.region false [
 ⟨some 85, .mv, [.t 12], none⟩,
 ⟨some 86, .mv, [.t 13], none⟩,
 ⟨some 87, (.bin .mul), [.t 85, .t 86], none⟩,
 ⟨some 17, .mv, [.t 87], none⟩])
 (.seq
 (.seq
 (.region false [
 ⟨some 88, .mv, [.t 17], none⟩,
 ⟨some 89, (.bin .gtr), [.t 88, .k (.f .f32 0)], none⟩,
 ⟨some 90, .not, [.t 89], none⟩])
 (.cond (.t 90)
 (.seq
 (.region false [
 ⟨some 8, .mv, [.k (.f .f32 0)], none⟩,
 ⟨some 9, .mv, [.k (.b false)], none⟩])
 .ret)
 .skip))
 (.seq
 (.region false [
 ⟨some 91, .mv, [.t 11], none⟩,
 ⟨some 92, (.call gq7), [.t 91], none⟩,
 ⟨some 93, .mv, [.t 17], none⟩,
 ⟨some 94, (.bin .quo), [.t 92, .t 93], none⟩,
 ⟨some 95, (.call gq8), [.t 94], none⟩,
 ⟨some 96, (.extract 0), [.t 95], none⟩,
 ⟨some 97, (.extract 1), [.t 95], none⟩,
 ⟨some 8, .mv, [.t 96], none⟩,
 ⟨some 9, .mv, [.t 97], none⟩])
 .ret))))))))))

abbrev Is_impl_TogetherOf (P : Program) (g_f : FuncId) (gq0 gq1 gq2 gq3 gq4 gq5 gq6 gq7 gq8 : FuncId) : Prop := FnIs P g_f 98 [.t 8, .t 9] (b_impl_TogetherOf gq0 gq1 gq2 gq3 gq4 gq5 gq6 gq7 gq8)

abbrev C_impl_TogetherOf (P : Program) (g_f : FuncId) : Prop := ∀ (a : List Nat) (k : Int) (u : Nat) (v : Nat) (p : Nat) (q : Nat) (w : Nat) (z : Nat) (ha : seriesM a = true) (hk : 0 ≤ k ∧ k ≤ (a.length / 2 : Nat)) (he : lnM a k a.length = (u, v)) (hu : fconvOk .f64 .f32 (muU u v u (fneg .f32 v)) = true) (hv : fconvOk .f64 .f32 (muV u v u (fneg .f32 v)) = true) (hp : dn (muU u v u (fneg .f32 v)) = p) (hq : dn (muV u v u (fneg .f32 v)) = q) (hl : sf u ∧ sf v) (hs : sf p ∧ 0 ≤ sv p) (hy : q = 0 ∨ q = 2147483648) (hw : fconvOk .f64 .f32 (pwW u v) = true ∧ dn (pwW u v) = w) (hz : fconvOk .f64 .f32 (pwW (fadd .f32 0 p) (fadd .f32 0 q)) = true ∧ dn (pwW (fadd .f32 0 p) (fadd .f32 0 q)) = z) (hd : finM (fmul .f32 (fadd .f32 0 w) (fadd .f32 0 w)) = true) (hf : fgt .f32 (fmul .f32 (fadd .f32 0 w) (fadd .f32 0 w)) 0 = true → finM (fdiv .f32 z (fmul .f32 (fadd .f32 0 w) (fadd .f32 0 w))) = true), VCall P g_f [PS [0] .f32 a, PS [1] .f32 a, .i .i64 1, .i .i64 k] (.tup [.f .f32 (if fgt .f32 (fmul .f32 (fadd .f32 0 w) (fadd .f32 0 w)) 0 = true then fdiv .f32 z (fmul .f32 (fadd .f32 0 w) (fadd .f32 0 w)) else 0), .b (fgt .f32 (fmul .f32 (fadd .f32 0 w) (fadd .f32 0 w)) 0)])
def oc_impl_TogetherOf (a : List Nat) (k : Int) (u : Nat) (v : Nat) (p : Nat) (q : Nat) (w : Nat) (z : Nat) (d : Nat) (as : List AV) : T AV := match d with | 20 => oc1_impl_areTwo as | 24 => oc1_impl_within as | 41 => oc1_impl_within as | 57 => .leaf (.c .f32 u v) | 65 => .leaf (.c .f32 u v) | 69 => .leaf (.b true) | 74 => oc1_impl_ConjugateOf as | 75 => .leaf (.c .f32 p q) | 76 => oc1_impl_plus as | 79 => .leaf (.f .f32 w) | 83 => .leaf (.f .f32 w) | 92 => .leaf (.f .f32 z) | 95 => oc1_impl_ifFinite as | _ => .fail
def h_impl_TogetherOf_L0 (a : List Nat) (k : Int) (u : Nat) (v : Nat) (p : Nat) (q : Nat) (w : Nat) (z : Nat) (sumR : Nat) (sumI : Nat) (first : Nat) (second : Nat) (at0 : Int) : Env := [AV.sl (Tag.par [0]) 0 (Cont.f .f32 a), AV.sl (Tag.par [1]) 0 (Cont.f .f32 a), .any, AV.i .i64 k] ++ anys 6 ++ [AV.i .i64 (wrap .i64 (Int.tdiv (↑(List.length a) : Int) 1)), .c .f32 sumR sumI, .f .f32 first, .f .f32 second, .i .i64 at0] ++ anys 83

theorem q_impl_TogetherOf_L0 {VC : FuncId → List AV → AV → Prop} {gq0 gq1 gq2 gq3 gq4 gq5 gq6 gq7 gq8 : FuncId} (a : List Nat) (k : Int) (u : Nat) (v : Nat) (p : Nat) (q : Nat) (w : Nat) (z : Nat) (sumR : Nat) (sumI : Nat) (first : Nat) (second : Nat) (at0 : Int) {e_ : Ex} {σ_ : Env} (ht : T.ok (fun x_ => x_ = (e_, σ_)) (
 T.ite (decide (at0 < (↑(List.length a) : Int)))
 (T.ob
 (0 ≤ at0 ∧
 at0 ≤ wrap .i64 (at0 + wrap .i64 (Int.tdiv (↑(List.length a) : Int) 1)) ∧
 wrap .i64 (at0 + wrap .i64 (Int.tdiv (↑(List.length a) : Int) 1)) ≤ (↑(List.length a) : Int))
 (T.ob
 (VC gq2
 [AV.sl (Tag.par [0]) 0
 (Cont.f .f32 (List.take (Int.toNat (wrap .i64 (at0 + wrap .i64 (Int.tdiv (↑(List.length a) : Int) 1))) - Int.toNat at0) (List.drop (Int.toNat at0) a))),
 AV.i .i64 k]
 (AV.c .f32 u v))
 (T.ob
 (0 ≤ at0 ∧
 at0 ≤ wrap .i64 (at0 + wrap .i64 (Int.tdiv (↑(List.length a) : Int) 1)) ∧
 wrap .i64 (at0 + wrap .i64 (Int.tdiv (↑(List.length a) : Int) 1)) ≤ (↑(List.length a) : Int))
 (T.ob
 (VC gq2
 [AV.sl (Tag.par [0]) 0
 (Cont.f .f32 (List.take (Int.toNat (wrap .i64 (at0 + wrap .i64 (Int.tdiv (↑(List.length a) : Int) 1))) - Int.toNat at0) (List.drop (Int.toNat at0) a))),
 AV.i .i64 k]
 (AV.c .f32 u v))
 (T.ob (VC gq3 [AV.sl (Tag.par [0]) 0 (Cont.c .f32 [(u, v), (u, v)])] (AV.b true))
 (T.ite false (T.leaf (Ex.ret, anys 8 ++ AV.f .f32 0 :: AV.b false :: anys 88))
 (T.ob (VC gq4 [AV.c .f32 u v] (AV.c .f32 u (fneg .f32 v)))
 (T.ob (VC gq5 [AV.c .f32 u v, AV.c .f32 u (fneg .f32 v)] (AV.c .f32 p q))
 (T.ob (VC gq6 [AV.c .f32 sumR sumI, AV.c .f32 p q] (AV.c .f32 (fadd .f32 sumR p) (fadd .f32 sumI q)))
 (T.ob (VC gq7 [AV.c .f32 u v] (AV.f .f32 w))
 (T.ob (VC gq7 [AV.c .f32 u v] (AV.f .f32 w))
 (T.leaf
 (Ex.normal,
 h_impl_TogetherOf_L0 a k u v p q w z (fadd .f32 sumR p) (fadd .f32 sumI q) (fadd .f32 first w) (fadd .f32 second w)
 (wrap .i64 (at0 + wrap .i64 (Int.tdiv (↑(List.length a) : Int) 1))))))))))))))))
 (T.leaf (Ex.exit 0, h_impl_TogetherOf_L0 a k u v p q w z sumR sumI first second at0)))) :
 Exec VC ps_impl_TogetherOf (b_impl_TogetherOf_L0 gq0 gq1 gq2 gq3 gq4 gq5 gq6 gq7 gq8) (h_impl_TogetherOf_L0 a k u v p q w z sumR sumI first second at0) e_ σ_ := evL_of (lv := lv_impl_TogetherOf_L0) (rs := [8, 9]) (O := ⟨oc_impl_TogetherOf a k u v p q w z, fun _ _ => none⟩) (by kernel_rfl) ht

theorem q_impl_TogetherOf {P : Program} {g_f : FuncId} {gq0 gq1 gq2 gq3 gq4 gq5 gq6 gq7 gq8 : FuncId} (h_ : Is_impl_TogetherOf P g_f gq0 gq1 gq2 gq3 gq4 gq5 gq6 gq7 gq8) (a : List Nat) (k : Int) (u : Nat) (v : Nat) (p : Nat) (q : Nat) (w : Nat) (z : Nat) (ht : T.ok (fun x_ => x_ = .tup [.f .f32 (if fgt .f32 (fmul .f32 (fadd .f32 0 w) (fadd .f32 0 w)) 0 = true then fdiv .f32 z (fmul .f32 (fadd .f32 0 w) (fadd .f32 0 w)) else 0), .b (fgt .f32 (fmul .f32 (fadd .f32 0 w) (fadd .f32 0 w)) 0)]) (
 T.ob ((VCall P) gq0 [AV.sl (Tag.par [0]) 0 (Cont.f .f32 a), AV.sl (Tag.par [1]) 0 (Cont.f .f32 a)] (AV.b (twoM a a)))
 (T.ite (!twoM a a) (T.leaf (AV.tup [AV.f .f32 0, AV.b false]))
 (T.ob ((VCall P) gq1 [AV.i .i64 1, AV.i .i64 1, AV.i .i64 16] (AV.b true))
 (T.ite false (T.leaf (AV.tup [AV.f .f32 0, AV.b false]))
 (T.ob ((1 : Int) ≠ 0)
 (T.ite (Int.tmod (↑(List.length a) : Int) 1 != 0) (T.leaf (AV.tup [AV.f .f32 0, AV.b false]))
 (T.ob ((1 : Int) ≠ 0)
 (T.ob ((2 : Int) ≠ 0)
 (T.ob
 ((VCall P) gq1 [AV.i .i64 k, AV.i .i64 0, AV.i .i64 (wrap .i64 (Int.tdiv (wrap .i64 (Int.tdiv (↑(List.length a) : Int) 1)) 2))]
 (AV.b (inM k 0 (wrap .i64 (Int.tdiv (wrap .i64 (Int.tdiv (↑(List.length a) : Int) 1)) 2)))))
 (T.ite (!inM k 0 (wrap .i64 (Int.tdiv (wrap .i64 (Int.tdiv (↑(List.length a) : Int) 1)) 2))) (T.leaf (AV.tup [AV.f .f32 0, AV.b false]))
 (T.ob
 (Exec (VCall P) ps_impl_TogetherOf
 (VCode.block 0 (VCode.loop (b_impl_TogetherOf_L0 gq0 gq1 gq2 gq3 gq4 gq5 gq6 gq7 gq8)))
 (h_impl_TogetherOf_L0 a k u v p q w z 0 0 0 0 0) Ex.normal
 (h_impl_TogetherOf_L0 a k u v p q w z (fadd .f32 0 p) (fadd .f32 0 q) (fadd .f32 0 w) (fadd .f32 0 w) (↑(List.length a) : Int)))
 (T.ite (!fgt .f32 (fmul .f32 (fadd .f32 0 w) (fadd .f32 0 w)) 0) (T.leaf (AV.tup [AV.f .f32 0, AV.b false]))
 (T.ob ((VCall P) gq7 [AV.c .f32 (fadd .f32 0 p) (fadd .f32 0 q)] (AV.f .f32 z))
 (T.ob True
 (T.ob
 ((VCall P) gq8 [AV.f .f32 (fdiv .f32 z (fmul .f32 (fadd .f32 0 w) (fadd .f32 0 w)))]
 (AV.tup
 [AV.f .f32 (numM (fdiv .f32 z (fmul .f32 (fadd .f32 0 w) (fadd .f32 0 w)))),
 AV.b (finM (fdiv .f32 z (fmul .f32 (fadd .f32 0 w) (fadd .f32 0 w))))]))
 (T.leaf
 (AV.tup
 [AV.f .f32 (numM (fdiv .f32 z (fmul .f32 (fadd .f32 0 w) (fadd .f32 0 w)))),
 AV.b (finM (fdiv .f32 z (fmul .f32 (fadd .f32 0 w) (fadd .f32 0 w))))])))))))))))))))))) :
 VCall P g_f [PS [0] .f32 a, PS [1] .f32 a, .i .i64 1, .i .i64 k] (.tup [.f .f32 (if fgt .f32 (fmul .f32 (fadd .f32 0 w) (fadd .f32 0 w)) 0 = true then fdiv .f32 z (fmul .f32 (fadd .f32 0 w) (fadd .f32 0 w)) else 0), .b (fgt .f32 (fmul .f32 (fadd .f32 0 w) (fadd .f32 0 w)) 0)]) := h_.call_of ps_impl_TogetherOf ⟨oc_impl_TogetherOf a k u v p q w z, fun id σ => match id with | 0 => some (lv_impl_TogetherOf_L0, .leaf (.normal, h_impl_TogetherOf_L0 a k u v p q w z (fadd .f32 0 p) (fadd .f32 0 q) (fadd .f32 0 w) (fadd .f32 0 w) a.length)) | _ => none⟩ (by kernel_rfl) ht

-- END impl_TogetherOf
-- FN spec_TogetherOf
def ps_spec_TogetherOf : List Nat := [0, 1, 2, 3, 8, 9, 10, 11, 12, 13, 14, 15, 16, 17, 18, 44, 50, 82, 107]
def lv_spec_TogetherOf_L0 : List Nat := [0, 1, 2, 3, 11, 12, 13, 14, 15]
def b_spec_TogetherOf_L0 (gq0 gq1 gq2 gq3 gq4 gq5 gq6 gq7 gq8 : FuncId) : VCode :=
 (.seq
 (.seq
 (.region false [
 ⟨some 48, .mv, [.t 15], none⟩,
 ⟨some 49, .mv, [.t 2], none⟩,
 ⟨some 50, (.bin .lss), [.t 48, .t 49], none⟩])
 (.cond (.t 50)
 .skip
 (.exit 0)))
 (.seq
 (.block 1
 (.seq
 (.region false [
 ⟨some 53, .mv, [.t 0], none⟩,
 ⟨some 54, .mv, [.t 15], none⟩,
 ⟨some 55, .mv, [.t 11], none⟩,
 ⟨some 56, (.bin .mul), [.t 54, .t 55], none⟩,
 ⟨some 57, .mv, [.t 15], none⟩,
 ⟨some 58, (.bin .add), [.t 57, .k (.i .i64 1)], none⟩,
 ⟨some 59, .mv, [.t 11], none⟩,
 ⟨some 60, (.bin .mul), [.t 58, .t 59], none⟩,
 ⟨some 61, (.slice true true false), [.t 53, .t 56, .t 60], none⟩,
 ⟨some 62, .mv, [.t 3], none⟩,
 ⟨some 63, (.call gq2), [.t 61, .t 62], none⟩,
 ⟨some 16, .mv, [.t 63], none⟩])
 (.seq
 (.region false [
 ⟨some 64, .mv, [.t 1], none⟩,
 ⟨some 65, .mv, [.t 15], none⟩,
 ⟨some 66, .mv, [.t 11], none⟩,
 ⟨some 67, (.bin .mul), [.t 65, .t 66], none⟩,
 ⟨some 68, .mv, [.t 15], none⟩,
 ⟨some 69, (.bin .add), [.t 68, .k (.i .i64 1)], none⟩,
 ⟨some 70, .mv, [.t 11], none⟩,
 ⟨some 71, (.bin .mul), [.t 69, .t 70], none⟩,
 ⟨some 72, (.slice true true false), [.t 64, .t 67, .t 71], none⟩,
 ⟨some 73, .mv, [.t 3], none⟩,
 ⟨some 74, (.call gq2), [.t 72, .t 73], none⟩,
 ⟨some 17, .mv, [.t 74], none⟩])
 (.seq
 (.seq
 (.region false [
 ⟨some 75, .mv, [.t 16], none⟩,
 ⟨some 76, (.call gq3), [.t 75], none⟩,
 ⟨some 77, .not, [.t 76], none⟩,
 ⟨some 78, .mv, [.t 77], none⟩,
 ⟨some 79, .mv, [.t 17], some (78, false)⟩,
 ⟨some 80, (.call gq3), [.t 79], some (78, false)⟩,
 ⟨some 81, .not, [.t 80], some (78, false)⟩,
 ⟨some 82, .pick, [.t 78, .k (.b true), .t 81], none⟩])
 (.cond (.t 82)
 (.seq
 (.region false [
 ⟨some 8, .mv, [.k (.f .f32 0)], none⟩,
 ⟨some 9, .mv, [.k (.b false)], none⟩])
 .ret)
 .skip))
 (.seq
 (.region false [
 ⟨some 83, .mv, [.t 12], none⟩,
 ⟨some 84, .mv, [.t 16], none⟩,
 ⟨some 85, .mv, [.t 17], none⟩,
 ⟨some 86, (.call gq4), [.t 85], none⟩,
 ⟨some 87, (.call gq5), [.t 84, .t 86], none⟩,
 ⟨some 88, (.bin .add), [.t 83, .t 87], none⟩,
 ⟨some 12, .mv, [.t 88], none⟩])
 (.seq
 (.region false [
 ⟨some 89, .mv, [.t 13], none⟩,
 ⟨some 90, .mv, [.t 16], none⟩,
 ⟨some 91, (.call gq6), [.t 90], none⟩,
 ⟨some 92, (.bin .add), [.t 89, .t 91], none⟩,
 ⟨some 13, .mv, [.t 92], none⟩])
 (.region false [
 ⟨some 93, .mv, [.t 14], none⟩,
 ⟨some 94, .mv, [.t 17], none⟩,
 ⟨some 95, (.call gq6), [.t 94], none⟩,
 ⟨some 96, (.bin .add), [.t 93, .t 95], none⟩,
 ⟨some 14, .mv, [.t 96], none⟩])))))))
 (.region false [
 ⟨some 51, .mv, [.t 15], none⟩,
 ⟨some 52, (.bin .add), [.t 51, .k (.i .i64 1)], none⟩,
 ⟨some 15, .mv, [.t 52], none⟩])))

def b_spec_TogetherOf (gq0 gq1 gq2 gq3 gq4 gq5 gq6 gq7 gq8 : FuncId) : VCode :=
 (.seq
 (.region false [
 ⟨some 8, .mv, [.k (.f .f32 0)], none⟩,
 ⟨some 9, .mv, [.k (.b false)], none⟩])
 (.seq
 (.region false [
 ⟨some 19, .mv, [.t 0], none⟩,
 ⟨some 20, .len, [.t 19], none⟩,
 ⟨some 10, .mv, [.t 20], none⟩])
 (.seq
 (.seq
 (.region false [
 ⟨some 21, .mv, [.t 0], none⟩,
 ⟨some 22, .mv, [.t 1], none⟩,
 ⟨some 23, (.call gq0), [.t 21, .t 22], none⟩,
 ⟨some 24, .not, [.t 23], none⟩,
 ⟨some 25, .mv, [.t 24], none⟩,
 ⟨some 26, .mv, [.t 2], some (25, false)⟩,
 ⟨some 27, (.call gq1), [.t 26, .k (.i .i64 1), .k (.i .i64 16)], some (25, false)⟩,
 ⟨some 28, .not, [.t 27], some (25, false)⟩,
 ⟨some 29, .pick, [.t 25, .k (.b true), .t 28], none⟩,
 ⟨some 30, .mv, [.t 29], none⟩,
 ⟨some 31, .mv, [.t 10], some (30, false)⟩,
 ⟨some 32, .mv, [.t 2], some (30, false)⟩,
 ⟨some 33, (.bin .rem), [.t 31, .t 32], some (30, false)⟩,
 ⟨some 34, (.bin .neq), [.t 33, .k (.i .i64 0)], some (30, false)⟩,
 ⟨some 35, .pick, [.t 30, .k (.b true), .t 34], none⟩,
 ⟨some 36, .mv, [.t 35], none⟩,
 ⟨some 37, .mv, [.t 3], some (36, false)⟩,
 ⟨some 38, .mv, [.t 10], some (36, false)⟩,
 ⟨some 39, .mv, [.t 2], some (36, false)⟩,
 ⟨some 40, (.bin .quo), [.t 38, .t 39], some (36, false)⟩,
 ⟨some 41, (.bin .quo), [.t 40, .k (.i .i64 2)], some (36, false)⟩,
 ⟨some 42, (.call gq1), [.t 37, .k (.i .i64 0), .t 41], some (36, false)⟩,
 ⟨some 43, .not, [.t 42], some (36, false)⟩,
 ⟨some 44, .pick, [.t 36, .k (.b true), .t 43], none⟩])
 (.cond (.t 44)
 (.seq
 (.region false [
 ⟨some 8, .mv, [.k (.f .f32 0)], none⟩,
 ⟨some 9, .mv, [.k (.b false)], none⟩])
 .ret)
 .skip))
 (.seq
 (.region false [
 ⟨some 45, .mv, [.t 10], none⟩,
 ⟨some 46, .mv, [.t 2], none⟩,
 ⟨some 47, (.bin .quo), [.t 45, .t 46], none⟩,
 ⟨some 11, .mv, [.t 47], none⟩])
 (.seq
 (.region false [
 ⟨some 12, .mv, [.k (.c .f32 0 0)], none⟩])
 (.seq
 (.region false [
 ⟨some 13, .mv, [.k (.f .f32 0)], none⟩])
 (.seq
 (.region false [
 ⟨some 14, .mv, [.k (.f .f32 0)], none⟩])
 (.seq
 (.seq
 (.region false [
 ⟨some 15, .mv, [.k (.i .i64 0)], none⟩])
 (.block 0 (.loop (b_spec_TogetherOf_L0 gq0 gq1 gq2 gq3 gq4 gq5 gq6 gq7 gq8))))
 (.seq
 (.region false [
 ⟨some 97, .mv, [.t 13], none⟩,
 ⟨some 98, .mv, [.t 14], none⟩,
 ⟨some 99, (.bin .mul), [.t 97, .t 98], none⟩,
 ⟨some 18, .mv, [.t 99], none⟩])
 (.seq
 (.seq
 (.region false [
 ⟨some 100, .mv, [.t 12], none⟩,
 ⟨some 101, (.call gq3), [.t 100], none⟩,
 ⟨some 102, .not, [.t 101], none⟩,
 ⟨some 103, .mv, [.t 102], none⟩,
 ⟨some 104, .mv, [.t 18], some (103, false)⟩,
 ⟨some 105, (.call gq7), [.t 104], some (103, false)⟩,
 ⟨some 106, .not, [.t 105], some (103, false)⟩,
 ⟨some 107, .pick, [.t 103, .k (.b true), .t 106], none⟩])
 (.cond (.t 107)
 (.seq
 (.region false [
 ⟨some 8, .mv, [.k (.f .f32 0)], none⟩,
 ⟨some 9, .mv, [.k (.b false)], none⟩])
 .ret)
 .skip))
 (.seq
 (.region false [
 ⟨some 108, .mv, [.t 12], none⟩,
 ⟨some 109, (.call gq6), [.t 108], none⟩,
 ⟨some 110, .mv, [.t 18], none⟩,
 ⟨some 111, (.bin .quo), [.t 109, .t 110], none⟩,
 ⟨some 112, (.call gq8), [.t 111], none⟩,
 ⟨some 113, (.extract 0), [.t 112], none⟩,
 ⟨some 114, (.extract 1), [.t 112], none⟩,
 ⟨some 8, .mv, [.t 113], none⟩,
 ⟨some 9, .mv, [.t 114], none⟩])
 .ret)))))))))))

abbrev Is_spec_TogetherOf (P : Program) (g_f : FuncId) (gq0 gq1 gq2 gq3 gq4 gq5 gq6 gq7 gq8 : FuncId) : Prop := FnIs P g_f 115 [.t 8, .t 9] (b_spec_TogetherOf gq0 gq1 gq2 gq3 gq4 gq5 gq6 gq7 gq8)

abbrev C_spec_TogetherOf (P : Program) (g_f : FuncId) : Prop := ∀ (a : List Nat) (k : Int) (u : Nat) (v : Nat) (p : Nat) (q : Nat) (w : Nat) (z : Nat) (ha : seriesM a = true) (hk : 0 ≤ k ∧ k ≤ (a.length / 2 : Nat)) (he : lnM a k a.length = (u, v)) (hu : fconvOk .f64 .f32 (muU u v u (fneg .f32 v)) = true) (hv : fconvOk .f64 .f32 (muV u v u (fneg .f32 v)) = true) (hp : dn (muU u v u (fneg .f32 v)) = p) (hq : dn (muV u v u (fneg .f32 v)) = q) (hl : sf u ∧ sf v) (hs : sf p ∧ 0 ≤ sv p) (hy : q = 0 ∨ q = 2147483648) (hw : fconvOk .f64 .f32 (pwW u v) = true ∧ dn (pwW u v) = w) (hz : fconvOk .f64 .f32 (pwW (fadd .f32 0 p) (fadd .f32 0 q)) = true ∧ dn (pwW (fadd .f32 0 p) (fadd .f32 0 q)) = z) (hc : finM (fadd .f32 0 p) = true ∧ finM (fadd .f32 0 q) = true) (hd : finM (fmul .f32 (fadd .f32 0 w) (fadd .f32 0 w)) = true) (hf : fgt .f32 (fmul .f32 (fadd .f32 0 w) (fadd .f32 0 w)) 0 = true → finM (fdiv .f32 z (fmul .f32 (fadd .f32 0 w) (fadd .f32 0 w))) = true), VCall P g_f [PS [0] .f32 a, PS [1] .f32 a, .i .i64 1, .i .i64 k] (.tup [.f .f32 (if fgt .f32 (fmul .f32 (fadd .f32 0 w) (fadd .f32 0 w)) 0 = true then fdiv .f32 z (fmul .f32 (fadd .f32 0 w) (fadd .f32 0 w)) else 0), .b (fgt .f32 (fmul .f32 (fadd .f32 0 w) (fadd .f32 0 w)) 0)])
def oc_spec_TogetherOf (a : List Nat) (k : Int) (u : Nat) (v : Nat) (p : Nat) (q : Nat) (w : Nat) (z : Nat) (d : Nat) (as : List AV) : T AV := match d with | 23 => oc1_spec_l03Pair as | 27 => oc1_spec_l00In as | 42 => oc1_spec_l00In as | 63 => .leaf (.c .f32 u v) | 74 => .leaf (.c .f32 u v) | 76 => .leaf (.b true) | 80 => .leaf (.b true) | 86 => oc1_spec_l01Conj as | 87 => .leaf (.c .f32 p q) | 91 => .leaf (.f .f32 w) | 95 => .leaf (.f .f32 w) | 101 => .leaf (.b true) | 105 => oc1_spec_l02Above as | 109 => .leaf (.f .f32 z) | 112 => oc1_spec_l02Number as | _ => .fail
def h_spec_TogetherOf_L0 (a : List Nat) (k : Int) (u : Nat) (v : Nat) (p : Nat) (q : Nat) (w : Nat) (z : Nat) (bothR : Nat) (bothI : Nat) (one : Nat) (two : Nat) (p2 : Int) : Env := [AV.sl (Tag.par [0]) 0 (Cont.f .f32 a), AV.sl (Tag.par [1]) 0 (Cont.f .f32 a), AV.i .i64 1, AV.i .i64 k] ++ anys 7 ++ [AV.i .i64 (wrap .i64 (Int.tdiv (↑(List.length a) : Int) 1)), .c .f32 bothR bothI, .f .f32 one, .f .f32 two, .i .i64 p2] ++ anys 99

theorem q_spec_TogetherOf_L0 {VC : FuncId → List AV → AV → Prop} {gq0 gq1 gq2 gq3 gq4 gq5 gq6 gq7 gq8 : FuncId} (a : List Nat) (k : Int) (u : Nat) (v : Nat) (p : Nat) (q : Nat) (w : Nat) (z : Nat) (bothR : Nat) (bothI : Nat) (one : Nat) (two : Nat) (p2 : Int) {e_ : Ex} {σ_ : Env} (ht : T.ok (fun x_ => x_ = (e_, σ_)) (
 T.ite (decide (p2 < 1))
 (T.ob
 (0 ≤ wrap .i64 (p2 * wrap .i64 (Int.tdiv (↑(List.length a) : Int) 1)) ∧
 wrap .i64 (p2 * wrap .i64 (Int.tdiv (↑(List.length a) : Int) 1)) ≤
 wrap .i64 (wrap .i64 (p2 + 1) * wrap .i64 (Int.tdiv (↑(List.length a) : Int) 1)) ∧
 wrap .i64 (wrap .i64 (p2 + 1) * wrap .i64 (Int.tdiv (↑(List.length a) : Int) 1)) ≤ (↑(List.length a) : Int))
 (T.ob
 (VC gq2
 [AV.sl (Tag.par [0]) 0
 (Cont.f .f32
 (List.take
 (Int.toNat (wrap .i64 (wrap .i64 (p2 + 1) * wrap .i64 (Int.tdiv (↑(List.length a) : Int) 1))) -
 Int.toNat (wrap .i64 (p2 * wrap .i64 (Int.tdiv (↑(List.length a) : Int) 1))))
 (List.drop (Int.toNat (wrap .i64 (p2 * wrap .i64 (Int.tdiv (↑(List.length a) : Int) 1)))) a))),
 AV.i .i64 k]
 (AV.c .f32 u v))
 (T.ob
 (0 ≤ wrap .i64 (p2 * wrap .i64 (Int.tdiv (↑(List.length a) : Int) 1)) ∧
 wrap .i64 (p2 * wrap .i64 (Int.tdiv (↑(List.length a) : Int) 1)) ≤
 wrap .i64 (wrap .i64 (p2 + 1) * wrap .i64 (Int.tdiv (↑(List.length a) : Int) 1)) ∧
 wrap .i64 (wrap .i64 (p2 + 1) * wrap .i64 (Int.tdiv (↑(List.length a) : Int) 1)) ≤ (↑(List.length a) : Int))
 (T.ob
 (VC gq2
 [AV.sl (Tag.par [0]) 0
 (Cont.f .f32
 (List.take
 (Int.toNat (wrap .i64 (wrap .i64 (p2 + 1) * wrap .i64 (Int.tdiv (↑(List.length a) : Int) 1))) -
 Int.toNat (wrap .i64 (p2 * wrap .i64 (Int.tdiv (↑(List.length a) : Int) 1))))
 (List.drop (Int.toNat (wrap .i64 (p2 * wrap .i64 (Int.tdiv (↑(List.length a) : Int) 1)))) a))),
 AV.i .i64 k]
 (AV.c .f32 u v))
 (T.ob (VC gq3 [AV.c .f32 u v] (AV.b true))
 (T.ite false (T.leaf (Ex.ret, anys 8 ++ AV.f .f32 0 :: AV.b false :: anys 105))
 (T.ob (VC gq3 [AV.c .f32 u v] (AV.b true))
 (T.ite false (T.leaf (Ex.ret, anys 8 ++ AV.f .f32 0 :: AV.b false :: anys 105))
 (T.ob (VC gq4 [AV.c .f32 u v] (AV.c .f32 u (fneg .f32 v)))
 (T.ob (VC gq5 [AV.c .f32 u v, AV.c .f32 u (fneg .f32 v)] (AV.c .f32 p q))
 (T.ob (VC gq6 [AV.c .f32 u v] (AV.f .f32 w))
 (T.ob (VC gq6 [AV.c .f32 u v] (AV.f .f32 w))
 (T.leaf
 (Ex.normal,
 h_spec_TogetherOf_L0 a k u v p q w z (fadd .f32 bothR p) (fadd .f32 bothI q) (fadd .f32 one w) (fadd .f32 two w)
 (wrap .i64 (p2 + 1))))))))))))))))
 (T.leaf (Ex.exit 0, h_spec_TogetherOf_L0 a k u v p q w z bothR bothI one two p2)))) :
 Exec VC ps_spec_TogetherOf (b_spec_TogetherOf_L0 gq0 gq1 gq2 gq3 gq4 gq5 gq6 gq7 gq8) (h_spec_TogetherOf_L0 a k u v p q w z bothR bothI one two p2) e_ σ_ := evL_of (lv := lv_spec_TogetherOf_L0) (rs := [8, 9]) (O := ⟨oc_spec_TogetherOf a k u v p q w z, fun _ _ => none⟩) (by kernel_rfl) ht

theorem q_spec_TogetherOf {P : Program} {g_f : FuncId} {gq0 gq1 gq2 gq3 gq4 gq5 gq6 gq7 gq8 : FuncId} (h_ : Is_spec_TogetherOf P g_f gq0 gq1 gq2 gq3 gq4 gq5 gq6 gq7 gq8) (a : List Nat) (k : Int) (u : Nat) (v : Nat) (p : Nat) (q : Nat) (w : Nat) (z : Nat) (ht : T.ok (fun x_ => x_ = .tup [.f .f32 (if fgt .f32 (fmul .f32 (fadd .f32 0 w) (fadd .f32 0 w)) 0 = true then fdiv .f32 z (fmul .f32 (fadd .f32 0 w) (fadd .f32 0 w)) else 0), .b (fgt .f32 (fmul .f32 (fadd .f32 0 w) (fadd .f32 0 w)) 0)]) (
 T.ob ((VCall P) gq0 [AV.sl (Tag.par [0]) 0 (Cont.f .f32 a), AV.sl (Tag.par [1]) 0 (Cont.f .f32 a)] (AV.b (twoM a a)))
 (T.ite (!twoM a a) (T.leaf (AV.tup [AV.f .f32 0, AV.b false]))
 (T.ob ((VCall P) gq1 [AV.i .i64 1, AV.i .i64 1, AV.i .i64 16] (AV.b true))
 (T.ite false (T.leaf (AV.tup [AV.f .f32 0, AV.b false]))
 (T.ob ((1 : Int) ≠ 0)
 (T.ite (Int.tmod (↑(List.length a) : Int) 1 != 0) (T.leaf (AV.tup [AV.f .f32 0, AV.b false]))
 (T.ob ((1 : Int) ≠ 0)
 (T.ob ((2 : Int) ≠ 0)
 (T.ob
 ((VCall P) gq1 [AV.i .i64 k, AV.i .i64 0, AV.i .i64 (wrap .i64 (Int.tdiv (wrap .i64 (Int.tdiv (↑(List.length a) : Int) 1)) 2))]
 (AV.b (inM k 0 (wrap .i64 (Int.tdiv (wrap .i64 (Int.tdiv (↑(List.length a) : Int) 1)) 2)))))
 (T.ite (!inM k 0 (wrap .i64 (Int.tdiv (wrap .i64 (Int.tdiv (↑(List.length a) : Int) 1)) 2))) (T.leaf (AV.tup [AV.f .f32 0, AV.b false]))
 (T.ob ((1 : Int) ≠ 0)
 (T.ob
 (Exec (VCall P) ps_spec_TogetherOf
 (VCode.block 0 (VCode.loop (b_spec_TogetherOf_L0 gq0 gq1 gq2 gq3 gq4 gq5 gq6 gq7 gq8)))
 (h_spec_TogetherOf_L0 a k u v p q w z 0 0 0 0 0) Ex.normal
 (h_spec_TogetherOf_L0 a k u v p q w z (fadd .f32 0 p) (fadd .f32 0 q) (fadd .f32 0 w) (fadd .f32 0 w) 1))
 (T.ob ((VCall P) gq3 [AV.c .f32 (fadd .f32 0 p) (fadd .f32 0 q)] (AV.b true))
 (T.ite false (T.leaf (AV.tup [AV.f .f32 0, AV.b false]))
 (T.ob
 ((VCall P) gq7 [AV.f .f32 (fmul .f32 (fadd .f32 0 w) (fadd .f32 0 w))]
 (AV.b (finM (fmul .f32 (fadd .f32 0 w) (fadd .f32 0 w)) && fgt .f32 (fmul .f32 (fadd .f32 0 w) (fadd .f32 0 w)) 0)))
 (T.ite (!(finM (fmul .f32 (fadd .f32 0 w) (fadd .f32 0 w)) && fgt .f32 (fmul .f32 (fadd .f32 0 w) (fadd .f32 0 w)) 0))
 (T.leaf (AV.tup [AV.f .f32 0, AV.b false]))
 (T.ob ((VCall P) gq6 [AV.c .f32 (fadd .f32 0 p) (fadd .f32 0 q)] (AV.f .f32 z))
 (T.ob True
 (T.ob
 ((VCall P) gq8 [AV.f .f32 (fdiv .f32 z (fmul .f32 (fadd .f32 0 w) (fadd .f32 0 w)))]
 (AV.tup
 [AV.f .f32 (numM (fdiv .f32 z (fmul .f32 (fadd .f32 0 w) (fadd .f32 0 w)))),
 AV.b (finM (fdiv .f32 z (fmul .f32 (fadd .f32 0 w) (fadd .f32 0 w))))]))
 (T.leaf
 (AV.tup
 [AV.f .f32 (numM (fdiv .f32 z (fmul .f32 (fadd .f32 0 w) (fadd .f32 0 w)))),
 AV.b (finM (fdiv .f32 z (fmul .f32 (fadd .f32 0 w) (fadd .f32 0 w))))])))))))))))))))))))))) :
 VCall P g_f [PS [0] .f32 a, PS [1] .f32 a, .i .i64 1, .i .i64 k] (.tup [.f .f32 (if fgt .f32 (fmul .f32 (fadd .f32 0 w) (fadd .f32 0 w)) 0 = true then fdiv .f32 z (fmul .f32 (fadd .f32 0 w) (fadd .f32 0 w)) else 0), .b (fgt .f32 (fmul .f32 (fadd .f32 0 w) (fadd .f32 0 w)) 0)]) := h_.call_of ps_spec_TogetherOf ⟨oc_spec_TogetherOf a k u v p q w z, fun id σ => match id with | 0 => some (lv_spec_TogetherOf_L0, .leaf (.normal, h_spec_TogetherOf_L0 a k u v p q w z (fadd .f32 0 p) (fadd .f32 0 q) (fadd .f32 0 w) (fadd .f32 0 w) 1)) | _ => none⟩ (by kernel_rfl) ht

-- END spec_TogetherOf

theorem k_impl_AngleOf {P : Program} {f g1 : FuncId} (h : Is_impl_AngleOf P f g1) (c1 : C_impl_AngleTurns P g1) : C_impl_AngleOf P f := fun a b hx hy => q_impl_AngleOf h a b (T.ok_ob (c1 b a _ hy hx rfl) fun _ => T.ok_leaf rfl)
theorem k_spec_AngleOf {P : Program} {f g1 g2 : FuncId} (h : Is_spec_AngleOf P f g1 g2) (c1 : C_spec_l01AngleWide P g1) (c2 : C_spec_l01Narrow P g2) : C_spec_AngleOf P f := by
  intro a b hx hy
  obtain ⟨u1, u2⟩ := conv_up hx.1
  refine q_spec_AngleOf h a b (T.ok_ob (fconvOk_32_64 _) fun _ => T.ok_ob (fconvOk_32_64 _) fun _ => T.ok_ob ?_ fun _ => T.ok_ob ?_ fun _ => T.ok_leaf rfl)
  · refine c1 _ _ _ ?_ ⟨u1, by rw [u2]; exact hx.2⟩ rfl
    rcases hy with e | e <;> subst e
    · exact .inl (by decide +kernel)
    · exact .inr (by decide +kernel)
  · exact c2 0 (by decide +kernel)
theorem two_self {a : List Nat} (h : seriesM a = true) : twoM a a = true := by
  unfold twoM
  rw [h]; simp
theorem in_of {a b c : Int} (h : b ≤ a ∧ a ≤ c) : inM a b c = true := by unfold inM; simp; exact h
theorem half_wrap {n : Nat} (h : n ≤ 96) : IntKind.wrap .i64 (Int.tdiv (n : Int) 2) = ((n / 2 : Nat) : Int) := by
  rw [Int.tdiv_eq_ediv_of_nonneg (by omega), wrap64_id (by omega) (by omega)]; omega
theorem pos_feq {p : Nat} (hs : sf p ∧ 0 ≤ sv p) : feq .f32 p 0 = !(fgt .f32 p 0) := by
  have z0 : sv 0 = 0 := zero_rv _
  rw [feq_rv (k := .f32) hs.1 zero_sf, fgt_rv (k := .f32) hs.1 zero_sf]
  show decide (sv p = sv 0) = !decide (sv 0 < sv p)
  rw [z0]
  by_cases h : 0 < sv p
  · rw [decide_eq_true h, decide_eq_false (by grind)]; rfl
  · rw [decide_eq_false h, decide_eq_true (by grind)]; rfl
theorem k_impl_LeadOf {P : Program} {f g1 g2 g3 g4 g5 g6 g7 g8 : FuncId} (h : Is_impl_LeadOf P f g1 g2 g3 g4 g5 g6 g7 g8) (c1 : C_impl_areTwo P g1) (c2 : C_impl_within P g2) (c3 : C_impl_lineOf P g3) (c4 : C_impl_ConjugateOf P g4) (c5 : C_impl_MulComplex P g5) (c6 : C_impl_areLines P g6) (c7 : C_impl_AngleOf P g7) (c8 : C_impl_ifFinite P g8) : C_impl_LeadOf P f := by
  intro a k u v p q ha hk he hu hv hp hq hl hs hy
  have hn := series_len ha
  have tw := two_self ha
  have mx : maxLen = 9223372036854775807 := rfl
  have a1 := c1 a a (by omega) (by omega)
  rw [tw] at a1
  have a3 := c3 a k hn.2 (by omega)
  rw [he] at a3
  have a5 := c5 u v u (fneg .f32 v) hu hv
  rw [hp, hq] at a5
  have hqf : finM q = true := by rcases hy with e | e <;> subst e <;> decide +kernel
  have a6 := c6 [(u, v), (u, v), (p, q)] (by simp [maxLen_eq])
  have fin : finAllC [(u, v), (u, v), (p, q)] = true := by
    unfold finAllC
    simp only [List.all_cons, List.all_nil, finC, (finM_sf _).2 hl.1, (finM_sf _).2 hl.2, (finM_sf _).2 hs.1, hqf]; rfl
  rw [fin] at a6
  have hq0 : feq .f32 q 0 = true := by rcases hy with e | e <;> subst e <;> decide +kernel
  have e2 := half_wrap hn.2
  have a2 := c2 k 0 ((a.length / 2 : Nat) : Int)
  rw [in_of hk] at a2
  refine q_impl_LeadOf h a k u v p q ?_
  rw [tw, e2, in_of hk, hq0, Bool.and_true, pos_feq hs]
  refine T.ok_ob a1 fun _ => T.ok_ifalse (T.ok_ob (by decide) fun _ => T.ok_ob a2 fun _ => T.ok_ifalse (T.ok_ob a3 fun _ => T.ok_ob a3 fun _ => T.ok_ob (c4 _ _) fun _ => T.ok_ob a5 fun _ => T.ok_ob a6 fun _ => T.ok_ifalse ?_))
  cases hg : fgt .f32 p 0 with
  | true =>
    have hx : sf p ∧ 0 < sv p := by
      refine ⟨hs.1, ?_⟩
      rw [fgt_rv (k := .f32) hs.1 zero_sf] at hg
      have := of_decide_eq_true hg
      rw [show rv FloatKind.f32.format 0 = 0 from zero_rv _] at this
      exact this
    exact T.ok_ifalse (T.ok_ob (c7 p q hx hy) fun _ => T.ok_ob (by have := c8 0; exact this) fun _ => T.ok_leaf rfl)
  | false => exact T.ok_itrue (T.ok_leaf rfl)
theorem k_spec_LeadOf {P : Program} {f g1 g2 g3 g4 g5 g6 g7 : FuncId} (h : Is_spec_LeadOf P f g1 g2 g3 g4 g5 g6 g7) (c1 : C_spec_l03Pair P g1) (c2 : C_spec_l00In P g2) (c3 : C_spec_l03Line P g3) (c4 : C_spec_l01CFinite P g4) (c5 : C_spec_l01Conj P g5) (c6 : C_spec_l01Mul P g6) (c7 : C_spec_AngleOf P g7) : C_spec_LeadOf P f := by
  intro a k u v p q ha hk he hu hv hp hq hl hs hy
  have hn := series_len ha
  have tw := two_self ha
  have mx : maxLen = 9223372036854775807 := rfl
  have a1 := c1 a a (by omega) (by omega)
  rw [tw] at a1
  have a3 := c3 a k hn.2 (by omega)
  rw [he] at a3
  have a5 := c6 u v u (fneg .f32 v) hu hv
  rw [hp, hq] at a5
  have hqf : finM q = true := by rcases hy with e | e <;> subst e <;> decide +kernel
  have a6 := c4 u v
  rw [(finM_sf _).2 hl.1, (finM_sf _).2 hl.2] at a6
  have a7 := c4 p q
  rw [(finM_sf _).2 hs.1, hqf] at a7
  have hq0 : feq .f32 q 0 = true := by rcases hy with e | e <;> subst e <;> decide +kernel
  have e2 := half_wrap hn.2
  have a2 := c2 k 0 ((a.length / 2 : Nat) : Int)
  rw [in_of hk] at a2
  refine q_spec_LeadOf h a k u v p q ?_
  rw [tw, e2, in_of hk, hq0, Bool.and_true, pos_feq hs]
  refine T.ok_ob a1 fun _ => T.ok_ifalse (T.ok_ob (by decide) fun _ => T.ok_ob a2 fun _ => T.ok_ifalse (T.ok_ob a3 fun _ => T.ok_ob a3 fun _ => T.ok_ob a6 fun _ => T.ok_ifalse (T.ok_ob a6 fun _ => T.ok_ifalse (T.ok_ob (c5 _ _) fun _ => T.ok_ob a5 fun _ => T.ok_ob a7 fun _ => T.ok_ifalse ?_))))
  cases hg : fgt .f32 p 0 with
  | true =>
    have hx : sf p ∧ 0 < sv p := by
      refine ⟨hs.1, ?_⟩
      rw [fgt_rv (k := .f32) hs.1 zero_sf] at hg
      have := of_decide_eq_true hg
      rw [show rv FloatKind.f32.format 0 = 0 from zero_rv _] at this
      exact this
    exact T.ok_ifalse (T.ok_ob (c7 p q hx hy) fun _ => T.ok_leaf rfl)
  | false => exact T.ok_itrue (T.ok_leaf rfl)
theorem lp_len (a : List Nat) (m : Nat) : (lpM a m).length = m := tab_len _ _
theorem lns_at (a : List Nat) (m : Nat) {k : Nat} (hk : k < m) : (lnsM a m).getD k (0, 0) = lnM a k a.length := tab_get _ _ _ _ hk
theorem k_impl_LinePowers {P : Program} {f g1 g2 g3 : FuncId} (h : Is_impl_LinePowers P f g1 g2 g3) (c1 : C_impl_LinesOf P g1) (c2 : C_impl_PowerOf P g2) (c3 : C_impl_ifAll P g3) : C_impl_LinePowers P f := by
  intro a ho hp
  have ha : seriesM a = true := by unfold lnsOk at ho; simp only [Bool.and_eq_true] at ho; exact ho.1
  have hn := series_len ha
  have mx : maxLen = 9223372036854775807 := rfl
  have a1 := c1 a (by omega)
  rw [ho, if_pos rfl] at a1
  have ll := lns_len a (a.length / 2 + 1)
  have l2 := lp_len a (a.length / 2 + 1)
  refine q_impl_LinePowers h a (T.ok_ob a1 fun _ => T.ok_ifalse (T.ok_ob ?_ fun _ => T.ok_ob (c3 _ (by omega)) fun _ => T.ok_leaf rfl))
  refine for_up (e := .exit 0) (a.length / 2 + 1) (fun i => h_impl_LinePowers_L0 a (lpM a i) (lnsM a (a.length / 2 + 1)) (i : Nat)) (by first | rfl | simp) (fun i hi => ?_) ?_
  · refine q_impl_LinePowers_L0 _ _ _ _ ?_
    have l3 := lp_len a i
    have es : lpM a (i + 1) = lpM a i ++ [fdiv .f32 (dn (pwW (lnM a i a.length).1 (lnM a i a.length).2)) (fofi .f32 a.length)] := tab_succ _ _
    rw [Int.toNat_natCast, lns_at a _ hi, wrap64_id (by omega) (by omega)]
    refine T.ok_ite (fun _ => T.ok_ob ⟨by omega, by omega⟩ fun _ => T.ok_ob (c2 _ _ (hp i hi)) fun _ => T.ok_ob True.intro fun _ => T.ok_ob True.intro fun _ => T.ok_ob (by simp only [List.length_singleton]; omega) fun _ => T.ok_leaf ?_) (fun h => absurd (of_decide_eq_false h) (by omega))
    rw [es]; rfl
  · exact q_impl_LinePowers_L0 _ _ _ _ (T.ok_ite (fun h => absurd (of_decide_eq_true h) (by omega)) (fun _ => T.ok_leaf rfl))
theorem bk_len (ls : LC) (n m : Nat) : (bkM ls n m).length = m := tab_len _ _
theorem k_impl_BackOfLines {P : Program} {f g1 g2 g3 g4 g5 : FuncId} (h : Is_impl_BackOfLines P f g1 g2 g3 g4 g5) (c1 : C_impl_within P g1) (c2 : C_impl_areLines P g2) (c3 : C_impl_PhasorOf P g3) (c4 : C_impl_MulComplex P g4) (c5 : C_impl_ifAll P g5) : C_impl_BackOfLines P f := by
  intro ls n hn hl hf hu
  have mx : maxLen = 9223372036854775807 := rfl
  have a1 := c1 (n : Int) 1 96
  rw [in_of (by omega)] at a1
  have a2 := c2 ls (by omega)
  rw [hf] at a2
  have bl := bk_len ls n n
  have e1 : ((ls.length : Int) != IntKind.wrap .i64 (IntKind.wrap .i64 (Int.tdiv (n : Int) 2) + 1)) = false := by
    rw [half_wrap hn.2, wrap64_id (by omega) (by omega), bne_eq_false_iff_eq]; omega
  refine q_impl_BackOfLines h ls n ?_
  rw [in_of (by omega), e1, hf]
  refine T.ok_ob a1 fun _ => T.ok_ifalse (T.ok_ob (by decide) fun _ => T.ok_ifalse (T.ok_ob a2 fun _ => T.ok_ifalse (T.ok_ob ?_ fun _ => T.ok_ob (c5 _ (by omega)) fun _ => T.ok_leaf rfl)))
  have inner : ∀ i, i < n → ∀ out, Exec (VCall P) ps_impl_BackOfLines (VCode.block 2 (VCode.loop (b_impl_BackOfLines_L2 g1 g2 g3 g4 g5))) (h_impl_BackOfLines_L2 ls n out i 0 0) Ex.normal (h_impl_BackOfLines_L2 ls n out i (bkS ls n i ls.length) ls.length) := by
    intro i hi out
    refine for_up (e := .exit 2) ls.length (fun k => h_impl_BackOfLines_L2 ls n out i (bkS ls n i k) (k : Nat)) (by first | rfl | simp) (fun k hk => ?_) ?_
    · refine q_impl_BackOfLines_L2 _ _ _ _ _ _ ?_
      have hki : k * i ≤ 96 * 96 := Nat.mul_le_mul (by omega) (by omega)
      have ew : IntKind.wrap .i64 ((k : Int) * (i : Int)) = (k : Int) * (i : Int) := wrap64_id (by have := Int.natCast_mul k i; omega) (by have := Int.natCast_mul k i; omega)
      have e2 : IntKind.wrap .i64 (2 * (k : Int)) = ((2 * k : Nat) : Int) := by rw [wrap64_id (by omega) (by omega)]; omega
      obtain ⟨u1, u2⟩ := hu i k hi hk
      rw [ew, Int.toNat_natCast, e2, wrap64_id (n := (k : Int) + 1) (by omega) (by omega)]
      have es : bkS ls n i (k + 1) = fadd .f32 (bkS ls n i k) (bkX ls n i k) := rfl
      refine T.ok_ite (fun _ => ?_) (fun h => absurd (of_decide_eq_false h) (by omega))
      refine T.ok_ob ⟨by omega, by omega⟩ fun _ => T.ok_ob True.intro fun _ => T.ok_ob True.intro fun _ => T.ok_ob True.intro fun _ => T.ok_ob (c3 _) fun _ => T.ok_ob (c4 _ _ _ _ u1 u2) fun _ => ?_
      refine T.ok_ite (fun h0 => T.ok_ite (fun h1 => T.ok_leaf ?_) (fun h1 => T.ok_leaf ?_)) (fun h0 => T.ok_leaf ?_)
      · have h0 : k ≠ 0 := by simpa using h0
        have h1 : 2 * k ≠ n := by simp at h1; omega
        rw [es]; unfold bkX; rw [if_pos ⟨h0, h1⟩]; rfl
      · have h1 : 2 * k = n := by simp at h1; omega
        rw [es]; unfold bkX; rw [if_neg (by omega)]; rfl
      · have h0 : k = 0 := by simpa using h0
        rw [es]; unfold bkX; rw [if_neg (by omega)]; rfl
    · exact q_impl_BackOfLines_L2 _ _ _ _ _ _ (T.ok_ite (fun h => absurd (of_decide_eq_true h) (by omega)) (fun _ => T.ok_leaf rfl))
  refine for_up (e := .exit 0) n (fun i => h_impl_BackOfLines_L0 ls n (bkM ls n i) (i : Nat)) (by first | rfl | simp) (fun i hi => ?_) ?_
  · refine q_impl_BackOfLines_L0 _ _ _ _ ?_
    have l3 := bk_len ls n i
    have es : bkM ls n (i + 1) = bkM ls n i ++ [fdiv .f32 (bkS ls n i ls.length) (fofi .f32 n)] := tab_succ _ _
    rw [Int.toNat_natCast, wrap64_id (by omega) (by omega)]
    refine T.ok_ite (fun _ => T.ok_ob (inner i hi _) fun _ => T.ok_ob True.intro fun _ => T.ok_ob True.intro fun _ => T.ok_ob (by simp only [List.length_singleton]; omega) fun _ => T.ok_leaf ?_) (fun h => absurd (of_decide_eq_false h) (by omega))
    rw [es]; rfl
  · exact q_impl_BackOfLines_L0 _ _ _ _ (T.ok_ite (fun h => absurd (of_decide_eq_true h) (by omega)) (fun _ => T.ok_leaf rfl))
theorem num_fin {x : Nat} (h : finM x = true) : numM x = x := by unfold numM; rw [if_pos h]
theorem k_impl_TogetherOf {P : Program} {f g1 g2 g3 g4 g5 g6 g7 g8 g9 : FuncId} (h : Is_impl_TogetherOf P f g1 g2 g3 g4 g5 g6 g7 g8 g9) (c1 : C_impl_areTwo P g1) (c2 : C_impl_within P g2) (c3 : C_impl_lineOf P g3) (c4 : C_impl_areLines P g4) (c5 : C_impl_ConjugateOf P g5) (c6 : C_impl_MulComplex P g6) (c7 : C_impl_plus P g7) (c8 : C_impl_PowerOf P g8) (c9 : C_impl_ifFinite P g9) : C_impl_TogetherOf P f := by
  intro a k u v p q w z ha hk he hu hv hp hq hl hs hy hw hz hd hf
  have hn := series_len ha
  have tw := two_self ha
  have mx : maxLen = 9223372036854775807 := rfl
  have a1 := c1 a a (by omega) (by omega)
  rw [tw] at a1
  have a3 := c3 a k hn.2 (by omega)
  rw [he] at a3
  have a5 := c6 u v u (fneg .f32 v) hu hv
  rw [hp, hq] at a5
  have a6 := c4 [(u, v), (u, v)] (by simp [maxLen_eq])
  have fin : finAllC [(u, v), (u, v)] = true := by
    unfold finAllC
    simp only [List.all_cons, List.all_nil, finC, (finM_sf _).2 hl.1, (finM_sf _).2 hl.2]; rfl
  rw [fin] at a6
  have a8 := c8 u v hw.1
  rw [hw.2] at a8
  have a9 := c8 _ _ hz.1
  rw [hz.2] at a9
  have e0 : IntKind.wrap .i64 (Int.tdiv (a.length : Int) 1) = (a.length : Int) := by rw [Int.tdiv_one, wrap64_id (by omega) (by omega)]
  have e2 := half_wrap hn.2
  have a2 := c2 k 0 ((a.length / 2 : Nat) : Int)
  rw [in_of hk] at a2
  have a2' := c2 1 1 16
  have e3 : (Int.tmod (a.length : Int) 1 != 0) = false := by rw [Int.tmod_one]; rfl
  refine q_impl_TogetherOf h a k u v p q w z ?_
  rw [tw, e0, e2, in_of hk, e3]
  refine T.ok_ob a1 fun _ => T.ok_ifalse (T.ok_ob a2' fun _ => T.ok_ifalse (T.ok_ob (by decide) fun _ => T.ok_ifalse (T.ok_ob (by decide) fun _ => T.ok_ob (by decide) fun _ => T.ok_ob a2 fun _ => T.ok_ifalse (T.ok_ob ?_ fun _ => ?_))))
  · refine for_up (e := .exit 0) 1 (fun i => if i = 0 then h_impl_TogetherOf_L0 a k u v p q w z 0 0 0 0 0 else h_impl_TogetherOf_L0 a k u v p q w z (fadd .f32 0 p) (fadd .f32 0 q) (fadd .f32 0 w) (fadd .f32 0 w) a.length) rfl (fun i hi => ?_) ?_
    · have : i = 0 := by omega
      subst this
      show Exec _ _ _ (h_impl_TogetherOf_L0 a k u v p q w z 0 0 0 0 0) _ (h_impl_TogetherOf_L0 a k u v p q w z (fadd .f32 0 p) (fadd .f32 0 q) (fadd .f32 0 w) (fadd .f32 0 w) a.length)
      refine q_impl_TogetherOf_L0 _ _ _ _ _ _ _ _ _ _ _ _ _ ?_
      have e4 : IntKind.wrap .i64 (0 + (a.length : Int)) = (a.length : Int) := by rw [wrap64_id (by omega) (by omega)]; omega
      rw [e0, e4]
      have e5 : List.take (Int.toNat (a.length : Int) - Int.toNat 0) (List.drop (Int.toNat 0) a) = a := by simp
      rw [e5]
      exact T.ok_ite (fun _ => T.ok_ob ⟨by omega, by omega, by omega⟩ fun _ => T.ok_ob a3 fun _ => T.ok_ob ⟨by omega, by omega, by omega⟩ fun _ => T.ok_ob a3 fun _ => T.ok_ob a6 fun _ => T.ok_ifalse (T.ok_ob (c5 _ _) fun _ => T.ok_ob a5 fun _ => T.ok_ob (c7 _ _ _ _) fun _ => T.ok_ob a8 fun _ => T.ok_ob a8 fun _ => T.ok_leaf rfl)) (fun h => absurd (of_decide_eq_false h) (by omega))
    · show Exec _ _ _ (h_impl_TogetherOf_L0 a k u v p q w z (fadd .f32 0 p) (fadd .f32 0 q) (fadd .f32 0 w) (fadd .f32 0 w) a.length) _ _
      exact q_impl_TogetherOf_L0 _ _ _ _ _ _ _ _ _ _ _ _ _ (T.ok_ite (fun h => absurd (of_decide_eq_true h) (by omega)) (fun _ => T.ok_leaf rfl))
  · cases hg : fgt .f32 (fmul .f32 (fadd .f32 0 w) (fadd .f32 0 w)) 0 with
    | true =>
      have hfin := hf hg
      have a10 := c9 (fdiv .f32 z (fmul .f32 (fadd .f32 0 w) (fadd .f32 0 w)))
      refine T.ok_ifalse (T.ok_ob a9 fun _ => T.ok_ob True.intro fun _ => T.ok_ob a10 fun _ => T.ok_leaf ?_)
      rw [num_fin hfin, hfin, if_pos rfl]
    | false => exact T.ok_itrue (T.ok_leaf rfl)
theorem k_spec_TogetherOf {P : Program} {f g1 g2 g3 g4 g5 g6 g7 g8 g9 : FuncId} (h : Is_spec_TogetherOf P f g1 g2 g3 g4 g5 g6 g7 g8 g9) (c1 : C_spec_l03Pair P g1) (c2 : C_spec_l00In P g2) (c3 : C_spec_l03Line P g3) (c4 : C_spec_l01CFinite P g4) (c5 : C_spec_l01Conj P g5) (c6 : C_spec_l01Mul P g6) (c7 : C_spec_l01Power P g7) (c8 : C_spec_l02Above P g8) (c9 : C_spec_l02Number P g9) : C_spec_TogetherOf P f := by
  intro a k u v p q w z ha hk he hu hv hp hq hl hs hy hw hz hc hd hf
  have hn := series_len ha
  have tw := two_self ha
  have mx : maxLen = 9223372036854775807 := rfl
  have a1 := c1 a a (by omega) (by omega)
  rw [tw] at a1
  have a3 := c3 a k hn.2 (by omega)
  rw [he] at a3
  have a5 := c6 u v u (fneg .f32 v) hu hv
  rw [hp, hq] at a5
  have a6 := c4 u v
  rw [(finM_sf _).2 hl.1, (finM_sf _).2 hl.2] at a6
  have a7 := c4 (fadd .f32 0 p) (fadd .f32 0 q)
  rw [hc.1, hc.2] at a7
  have a8 := c7 u v hw.1
  rw [hw.2] at a8
  have a9 := c7 _ _ hz.1
  rw [hz.2] at a9
  have e0 : IntKind.wrap .i64 (Int.tdiv (a.length : Int) 1) = (a.length : Int) := by rw [Int.tdiv_one, wrap64_id (by omega) (by omega)]
  have e2 := half_wrap hn.2
  have a2 := c2 k 0 ((a.length / 2 : Nat) : Int)
  rw [in_of hk] at a2
  have a2' := c2 1 1 16
  have e3 : (Int.tmod (a.length : Int) 1 != 0) = false := by rw [Int.tmod_one]; rfl
  refine q_spec_TogetherOf h a k u v p q w z ?_
  rw [tw, e0, e2, in_of hk, e3, hd, Bool.true_and]
  refine T.ok_ob a1 fun _ => T.ok_ifalse (T.ok_ob a2' fun _ => T.ok_ifalse (T.ok_ob (by decide) fun _ => T.ok_ifalse (T.ok_ob (by decide) fun _ => T.ok_ob (by decide) fun _ => T.ok_ob a2 fun _ => T.ok_ifalse (T.ok_ob (by decide) fun _ => T.ok_ob ?_ fun _ => T.ok_ob a7 fun _ => T.ok_ifalse (T.ok_ob (by have := c8 (fmul .f32 (fadd .f32 0 w) (fadd .f32 0 w)); rw [hd, Bool.true_and] at this; exact this) fun _ => ?_)))))
  · refine for_up (e := .exit 0) 1 (fun i => if i = 0 then h_spec_TogetherOf_L0 a k u v p q w z 0 0 0 0 0 else h_spec_TogetherOf_L0 a k u v p q w z (fadd .f32 0 p) (fadd .f32 0 q) (fadd .f32 0 w) (fadd .f32 0 w) 1) rfl (fun i hi => ?_) ?_
    · have : i = 0 := by omega
      subst this
      show Exec _ _ _ (h_spec_TogetherOf_L0 a k u v p q w z 0 0 0 0 0) _ (h_spec_TogetherOf_L0 a k u v p q w z (fadd .f32 0 p) (fadd .f32 0 q) (fadd .f32 0 w) (fadd .f32 0 w) 1)
      refine q_spec_TogetherOf_L0 _ _ _ _ _ _ _ _ _ _ _ _ _ ?_
      have e4 : IntKind.wrap .i64 (0 * (a.length : Int)) = 0 := by rw [Int.zero_mul]; rfl
      have e6 : IntKind.wrap .i64 (IntKind.wrap .i64 (0 + 1) * (a.length : Int)) = (a.length : Int) := by rw [show IntKind.wrap .i64 (0 + 1) = 1 from rfl, Int.one_mul, wrap64_id (by omega) (by omega)]
      rw [e0, e4, e6]
      have e5 : List.take (Int.toNat (a.length : Int) - Int.toNat 0) (List.drop (Int.toNat 0) a) = a := by simp
      rw [e5]
      exact T.ok_ite (fun _ => T.ok_ob ⟨by omega, by omega, by omega⟩ fun _ => T.ok_ob a3 fun _ => T.ok_ob ⟨by omega, by omega, by omega⟩ fun _ => T.ok_ob a3 fun _ => T.ok_ob a6 fun _ => T.ok_ifalse (T.ok_ob a6 fun _ => T.ok_ifalse (T.ok_ob (c5 _ _) fun _ => T.ok_ob a5 fun _ => T.ok_ob a8 fun _ => T.ok_ob a8 fun _ => T.ok_leaf rfl))) (fun h => absurd (of_decide_eq_false h) (by omega))
    · show Exec _ _ _ (h_spec_TogetherOf_L0 a k u v p q w z (fadd .f32 0 p) (fadd .f32 0 q) (fadd .f32 0 w) (fadd .f32 0 w) 1) _ _
      exact q_spec_TogetherOf_L0 _ _ _ _ _ _ _ _ _ _ _ _ _ (T.ok_ite (fun h => absurd (of_decide_eq_true h) (by omega)) (fun _ => T.ok_leaf rfl))
  · cases hg : fgt .f32 (fmul .f32 (fadd .f32 0 w) (fadd .f32 0 w)) 0 with
    | true =>
      have hfin := hf hg
      have a10 := c9 (fdiv .f32 z (fmul .f32 (fadd .f32 0 w) (fadd .f32 0 w)))
      refine T.ok_ifalse (T.ok_ob a9 fun _ => T.ok_ob True.intro fun _ => T.ok_ob a10 fun _ => T.ok_leaf ?_)
      rw [num_fin hfin, hfin, if_pos rfl]
    | false => exact T.ok_itrue (T.ok_leaf rfl)

end Go.Proofs.LV
