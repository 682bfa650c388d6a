/- Texts that belong together. -/
import Derived.Test.YtdffgjembkanoaaLvFnMM
import Derived.Test.YtdffgjembkanoaaLvFnII
import Derived.Test.YtdffgjembkanoaaLvFnBBX
import Derived.Test.YtdffgjembkanoaaLvFnCX
import Derived.Test.YtdffgjembkanoaaLvAbsX
namespace Go.Proofs.LV
open Go
set_option linter.unusedVariables false
set_option linter.unusedSimpArgs false

/-- the columns of harmonics, of the first m places -/
def hfC (m : Nat) (p : Nat) (c : Nat) : LL := tab (2 * c + 1) fun k => tab m fun i => (hmL p (i : Nat) c).getD k 0
def hfG (a : List Nat) (p : Nat) (c : Int) : Bool := seriesM a && ((finM p && fgt .f32 p 0) && inM c 1 2)
def hfOk (a : List Nat) (p : Nat) (c : Int) : Bool := hfG a p c && ftOk (hfC a.length p c.toNat) a
def hfOut (a : List Nat) (p : Nat) (c : Int) : List Nat := if hfG a p c = true then ftOut (hfC a.length p c.toNat) a else []

open Go.IntKind (wrap)
-- FN impl_HarmonicFit
def ps_impl_HarmonicFit : List Nat := [0, 1, 2, 6, 7, 8, 9, 10, 11, 25, 31, 32, 33, 38, 39, 40, 41, 61]
def lv_impl_HarmonicFit_L0 : List Nat := [0, 1, 2, 8, 31, 32]
def lv_impl_HarmonicFit_L2 : List Nat := [0, 1, 2, 8, 31, 32, 38, 39, 40]
def b_impl_HarmonicFit_L2 (gq0 gq1 gq2 gq3 gq4 gq5 : FuncId) : VCode :=
 (.seq
 (.region false [
 ⟨some 41, (.bin .lss), [.t 40, .t 39], none⟩])
 (.seq
 (.cond (.t 41)
 .skip
 (.exit 2))
 (.seq
 (.block 3
 (.seq
 (.region false [
 ⟨some 42, .mv, [.t 40], none⟩,
 ⟨some 43, .iaddr, [.t 38, .t 40], none⟩,
 ⟨some 44, .load, [.t 43], none⟩,
 ⟨some 10, .mv, [.t 42], none⟩,
 ⟨some 11, .mv, [.t 44], none⟩])
 (.region false [
 ⟨some 45, .mv, [.t 8], none⟩,
 ⟨some 46, .mv, [.t 10], none⟩,
 ⟨some 47, .mv, [.t 8], none⟩,
 ⟨some 48, .mv, [.t 10], none⟩,
 ⟨some 49, .iaddr, [.t 47, .t 48], none⟩,
 ⟨some 50, .load, [.t 49], none⟩,
 ⟨some 51, .mv, [.t 11], none⟩,
 ⟨some 52, (.lit true (.f .f32 [])), [.t 51], none⟩,
 ⟨some 53, .app, [.t 50, .t 52], none⟩,
 ⟨some 54, .iaddr, [.t 45, .t 46], none⟩,
 ⟨none, .store, [.t 54, .t 53], none⟩])))
 (.region false [
 ⟨some 55, (.bin .add), [.t 40, .k (.i .i64 1)], none⟩,
 ⟨some 40, .mv, [.t 55], none⟩]))))

def b_impl_HarmonicFit_L0 (gq0 gq1 gq2 gq3 gq4 gq5 : FuncId) : VCode :=
 (.seq
 (.region false [
 ⟨some 33, (.bin .lss), [.t 32, .t 31], none⟩])
 (.seq
 (.cond (.t 33)
 .skip
 (.exit 0))
 (.seq
 (.block 1
 (.seq
 (.region false [
 ⟨some 34, .mv, [.t 32], none⟩,
 ⟨some 9, .mv, [.t 34], none⟩])
 (.seq
 (.region false [
 ⟨some 35, .mv, [.t 1], none⟩,
 ⟨some 36, .mv, [.t 2], none⟩,
 ⟨some 37, .mv, [.t 9], none⟩,
 ⟨some 38, (.call gq3), [.t 35, .t 36, .t 37], none⟩,
 ⟨some 39, .len, [.t 38], none⟩,
 ⟨some 40, .mv, [.k (.i .i64 0)], none⟩])
 (.block 2 (.loop (b_impl_HarmonicFit_L2 gq0 gq1 gq2 gq3 gq4 gq5))))))
 (.region false [
 ⟨some 56, (.bin .add), [.t 32, .k (.i .i64 1)], none⟩,
 ⟨some 32, .mv, [.t 56], none⟩]))))

def b_impl_HarmonicFit (gq0 gq1 gq2 gq3 gq4 gq5 : FuncId) : VCode :=
 (.seq
 (.region false [
 ⟨some 6, (.nilsl (.f .f32 [])), [], none⟩,
 ⟨some 7, .mv, [.k (.b false)], none⟩])
 (.seq
 (.seq
 (.region false [
 ⟨some 12, .mv, [.t 0], none⟩,
 ⟨some 13, (.call gq0), [.t 12], none⟩,
 ⟨some 14, .not, [.t 13], none⟩,
 ⟨some 15, .mv, [.t 14], none⟩,
 ⟨some 16, .mv, [.t 1], some (15, false)⟩,
 ⟨some 17, (.lit true (.f .f32 [])), [.t 16], some (15, false)⟩,
 ⟨some 18, (.call gq1), [.t 17], some (15, false)⟩,
 ⟨some 19, .not, [.t 18], some (15, false)⟩,
 ⟨some 20, .pick, [.t 15, .k (.b true), .t 19], none⟩,
 ⟨some 21, .mv, [.t 20], none⟩,
 ⟨some 22, .mv, [.t 2], some (21, false)⟩,
 ⟨some 23, (.call gq2), [.t 22, .k (.i .i64 1), .k (.i .i64 2)], some (21, false)⟩,
 ⟨some 24, .not, [.t 23], some (21, false)⟩,
 ⟨some 25, .pick, [.t 21, .k (.b true), .t 24], none⟩])
 (.cond (.t 25)
 (.seq
 (.region false [
 ⟨some 6, (.nilsl (.f .f32 [])), [], none⟩,
 ⟨some 7, .mv, [.k (.b false)], none⟩])
 .ret)
 .skip))
 (.seq
 (.region false [
 ⟨some 26, .mv, [.t 2], none⟩,
 ⟨some 27, (.bin .mul), [.k (.i .i64 2), .t 26], none⟩,
 ⟨some 28, (.bin .add), [.k (.i .i64 1), .t 27], none⟩,
 ⟨some 29, (.mksl (.sl .imm 0 (.f .f32 []))), [.t 28, .t 28], none⟩,
 ⟨some 8, .mv, [.t 29], none⟩])
 (.seq
 (.seq
 (.region false [
 ⟨some 30, .mv, [.t 0], none⟩,
 ⟨some 31, .len, [.t 30], none⟩,
 ⟨some 32, .mv, [.k (.i .i64 0)], none⟩])
 (.block 0 (.loop (b_impl_HarmonicFit_L0 gq0 gq1 gq2 gq3 gq4 gq5))))
 (.seq
 (.seq
 (.region false [
 ⟨some 57, .mv, [.t 8], none⟩,
 ⟨some 58, .mv, [.t 0], none⟩,
 ⟨some 59, .len, [.t 58], none⟩,
 ⟨some 60, (.call gq4), [.t 57, .t 59], none⟩,
 ⟨some 61, .not, [.t 60], none⟩])
 (.cond (.t 61)
 (.seq
 (.region false [
 ⟨some 6, (.nilsl (.f .f32 [])), [], none⟩,
 ⟨some 7, .mv, [.k (.b false)], none⟩])
 .ret)
 .skip))
 (.seq
 (.region false [
 ⟨some 62, .mv, [.t 8], none⟩,
 ⟨some 63, .mv, [.t 0], none⟩,
 ⟨some 64, (.call gq5), [.t 62, .t 63], none⟩,
 ⟨some 65, (.extract 0), [.t 64], none⟩,
 ⟨some 66, (.extract 1), [.t 64], none⟩,
 ⟨some 6, .mv, [.t 65], none⟩,
 ⟨some 7, .mv, [.t 66], none⟩])
 .ret))))))

abbrev Is_impl_HarmonicFit (P : Program) (g_f : FuncId) (gq0 gq1 gq2 gq3 gq4 gq5 : FuncId) : Prop := FnIs P g_f 67 [.t 6, .t 7] (b_impl_HarmonicFit gq0 gq1 gq2 gq3 gq4 gq5)

abbrev C_impl_HarmonicFit (P : Program) (g_f : FuncId) : Prop := ∀ (a : List Nat) (p : Nat) (c : Int) (hx : a.length ≤ maxLen), VCall P g_f [PS [0] .f32 a, .f .f32 p, .i .i64 c] (.tup [OS 0 .f32 (hfOut a p c), .b (hfOk a p c)])
def oc_impl_HarmonicFit (a : List Nat) (p : Nat) (c : Int) (d : Nat) (as : List AV) : T AV := match d with | 13 => oc1_impl_IsSeries as | 18 => oc1_impl_areMore as | 23 => oc1_impl_within as | 38 => oc1_impl_harmonics as | 60 => oc1_impl_areColumns as | 64 => oc1_impl_columnFit as | _ => .fail
def h_impl_HarmonicFit_L0 (a : List Nat) (p : Nat) (c : Int) (columns : LL) (v32 : Int) : Env := [AV.sl (Tag.par [0]) 0 (Cont.f .f32 a), AV.f .f32 p, AV.i .i64 c] ++ anys 5 ++ [.nw 232 0 .f32 columns none] ++ anys 22 ++ [AV.i .i64 (↑(List.length a) : Int), .i .i64 v32] ++ anys 34
def h_impl_HarmonicFit_L2 (a : List Nat) (p : Nat) (c : Int) (columns : LL) (v32 : Int) (columns2 : LL) (v38 : List Nat) (v40 : Int) : Env := [AV.sl (Tag.par [0]) 0 (Cont.f .f32 a), AV.f .f32 p, AV.i .i64 c] ++ anys 5 ++ [.nw 232 0 .f32 columns2 none] ++ anys 22 ++ [AV.i .i64 (↑(List.length a) : Int), AV.i .i64 v32] ++ anys 5 ++ [.sl (Tag.own 304) 0 (.f .f32 v38), AV.i .i64 (↑(List.length (hmL p v32 (Int.toNat c))) : Int), .i .i64 v40] ++ anys 26

theorem q_impl_HarmonicFit_L0 {VC : FuncId → List AV → AV → Prop} {gq0 gq1 gq2 gq3 gq4 gq5 : FuncId} (a : List Nat) (p : Nat) (c : Int) (columns : LL) (v32 : Int) {e_ : Ex} {σ_ : Env} (ht : T.ok (fun x_ => x_ = (e_, σ_)) (
 T.ite (decide (v32 < (↑(List.length a) : Int)))
 (T.ob (VC gq3 [AV.f .f32 p, AV.i .i64 c, AV.i .i64 v32] (AV.sl (Tag.own 0) 0 (Cont.f .f32 (hmL p v32 (Int.toNat c)))))
 (T.ob
 (Exec VC ps_impl_HarmonicFit (VCode.block 2 (VCode.loop (b_impl_HarmonicFit_L2 gq0 gq1 gq2 gq3 gq4 gq5)))
 (h_impl_HarmonicFit_L2 a p c columns v32 columns (hmL p v32 (Int.toNat c)) 0) Ex.normal
 (h_impl_HarmonicFit_L2 a p c columns v32 (hfC (Int.toNat v32 + 1) p (Int.toNat c)) (hmL p v32 (Int.toNat c)) (↑(2 * Int.toNat c + 1) : Int)))
 (T.leaf (Ex.normal, h_impl_HarmonicFit_L0 a p c (hfC (Int.toNat v32 + 1) p (Int.toNat c)) (wrap .i64 (v32 + 1))))))
 (T.leaf (Ex.exit 0, h_impl_HarmonicFit_L0 a p c columns v32)))) :
 Exec VC ps_impl_HarmonicFit (b_impl_HarmonicFit_L0 gq0 gq1 gq2 gq3 gq4 gq5) (h_impl_HarmonicFit_L0 a p c columns v32) e_ σ_ := evL_of (lv := lv_impl_HarmonicFit_L0) (rs := [6, 7]) (O := ⟨oc_impl_HarmonicFit a p c, fun id σ => match id with | 2 => some (lv_impl_HarmonicFit_L2, .leaf (.normal, h_impl_HarmonicFit_L2 a p c columns v32 (hfC (v32.toNat + 1) p c.toNat) (hmL p v32 c.toNat) ((2 * c.toNat + 1 : Nat) : Int))) | _ => none⟩) (by kernel_rfl) ht

theorem q_impl_HarmonicFit_L2 {VC : FuncId → List AV → AV → Prop} {gq0 gq1 gq2 gq3 gq4 gq5 : FuncId} (a : List Nat) (p : Nat) (c : Int) (columns : LL) (v32 : Int) (columns2 : LL) (v38 : List Nat) (v40 : Int) {e_ : Ex} {σ_ : Env} (ht : T.ok (fun x_ => x_ = (e_, σ_)) (
 T.ite (decide (v40 < (↑(List.length (hmL p v32 (Int.toNat c))) : Int)))
 (T.ob (0 ≤ v40 ∧ v40 < (↑(List.length v38) : Int))
 (T.ob (0 ≤ v40 ∧ v40 < (↑(List.length columns2) : Int))
 (T.ob (List.length (List.getD columns2 (Int.toNat v40) []) + List.length [List.getD v38 (Int.toNat v40) 0] ≤ 4294967296)
 (T.ob (0 ≤ v40 ∧ v40 < (↑(List.length columns2) : Int))
 (T.ob (0 + Int.toNat v40 = 0 + Int.toNat v40)
 (T.leaf
 (Ex.normal,
 h_impl_HarmonicFit_L2 a p c columns v32 (List.set columns2 (0 + Int.toNat v40) (List.getD columns2 (Int.toNat v40) [] ++ [List.getD v38 (Int.toNat v40) 0])) v38 (wrap .i64 (v40 + 1)))))))))
 (T.leaf (Ex.exit 2, h_impl_HarmonicFit_L2 a p c columns v32 columns2 v38 v40)))) :
 Exec VC ps_impl_HarmonicFit (b_impl_HarmonicFit_L2 gq0 gq1 gq2 gq3 gq4 gq5) (h_impl_HarmonicFit_L2 a p c columns v32 columns2 v38 v40) e_ σ_ := evL_of (lv := lv_impl_HarmonicFit_L2) (rs := [6, 7]) (O := ⟨oc_impl_HarmonicFit a p c, fun _ _ => none⟩) (by kernel_rfl) ht

theorem q_impl_HarmonicFit {P : Program} {g_f : FuncId} {gq0 gq1 gq2 gq3 gq4 gq5 : FuncId} (h_ : Is_impl_HarmonicFit P g_f gq0 gq1 gq2 gq3 gq4 gq5) (a : List Nat) (p : Nat) (c : Int) (ht : T.ok (fun x_ => x_ = .tup [OS 0 .f32 (hfOut a p c), .b (hfOk a p c)]) (
 T.ob ((VCall P) gq0 [AV.sl (Tag.par [0]) 0 (Cont.f .f32 a)] (AV.b (seriesM a)))
 (T.ite (!seriesM a) (T.leaf (AV.tup [AV.sl (Tag.own 0) 0 (Cont.f .f32 []), AV.b false]))
 (T.ob ((VCall P) gq1 [AV.sl (Tag.par [0]) 0 (Cont.f .f32 [p])] (AV.b (moreM [p])))
 (T.ite (!moreM [p]) (T.leaf (AV.tup [AV.sl (Tag.own 0) 0 (Cont.f .f32 []), AV.b false]))
 (T.ob ((VCall P) gq2 [AV.i .i64 c, AV.i .i64 1, AV.i .i64 2] (AV.b (inM c 1 2)))
 (T.ite (!inM c 1 2) (T.leaf (AV.tup [AV.sl (Tag.own 0) 0 (Cont.f .f32 []), AV.b false]))
 (T.ob
 (wrap .i64 (1 + wrap .i64 (2 * c)) = wrap .i64 (1 + wrap .i64 (2 * c)) ∧
 0 ≤ wrap .i64 (1 + wrap .i64 (2 * c)) ∧ wrap .i64 (1 + wrap .i64 (2 * c)) ≤ 4294967296)
 (T.ob
 (Exec (VCall P) ps_impl_HarmonicFit (VCode.block 0 (VCode.loop (b_impl_HarmonicFit_L0 gq0 gq1 gq2 gq3 gq4 gq5)))
 (h_impl_HarmonicFit_L0 a p c (List.replicate (Int.toNat (wrap .i64 (1 + wrap .i64 (2 * c)))) []) 0) Ex.normal
 (h_impl_HarmonicFit_L0 a p c (hfC (List.length a) p (Int.toNat c)) (↑(List.length a) : Int)))
 (T.ob
 ((VCall P) gq4 [AV.sl (Tag.par [0]) 0 (Cont.ff .f32 (hfC (List.length a) p (Int.toNat c))), AV.i .i64 (↑(List.length a) : Int)]
 (AV.b (colsM (hfC (List.length a) p (Int.toNat c)) (Int.toNat (↑(List.length a) : Int)))))
 (T.ite (!colsM (hfC (List.length a) p (Int.toNat c)) (Int.toNat (↑(List.length a) : Int))) (T.leaf (AV.tup [AV.sl (Tag.own 0) 0 (Cont.f .f32 []), AV.b false]))
 (T.ob
 ((VCall P) gq5 [AV.sl (Tag.par [0]) 0 (Cont.ff .f32 (hfC (List.length a) p (Int.toNat c))), AV.sl (Tag.par [1]) 0 (Cont.f .f32 a)]
 (AV.tup
 [AV.sl (Tag.own 0) 0
 (Cont.f .f32
 (if cfOk (cfG (hfC (List.length a) p (Int.toNat c)) a) (List.length (hfC (List.length a) p (Int.toNat c))) = true then
 ifAllM (cfOut (cfG (hfC (List.length a) p (Int.toNat c)) a) (List.length (hfC (List.length a) p (Int.toNat c))))
 else [])),
 AV.b
 (cfOk (cfG (hfC (List.length a) p (Int.toNat c)) a) (List.length (hfC (List.length a) p (Int.toNat c))) &&
 finAllM (cfOut (cfG (hfC (List.length a) p (Int.toNat c)) a) (List.length (hfC (List.length a) p (Int.toNat c)))))]))
 (T.leaf
 (AV.tup
 [AV.sl (Tag.own 0) 0
 (Cont.f .f32
 (if cfOk (cfG (hfC (List.length a) p (Int.toNat c)) a) (List.length (hfC (List.length a) p (Int.toNat c))) = true then
 ifAllM (cfOut (cfG (hfC (List.length a) p (Int.toNat c)) a) (List.length (hfC (List.length a) p (Int.toNat c))))
 else [])),
 AV.b
 (cfOk (cfG (hfC (List.length a) p (Int.toNat c)) a) (List.length (hfC (List.length a) p (Int.toNat c))) &&
 finAllM (cfOut (cfG (hfC (List.length a) p (Int.toNat c)) a) (List.length (hfC (List.length a) p (Int.toNat c)))))])))))))))))))) :
 VCall P g_f [PS [0] .f32 a, .f .f32 p, .i .i64 c] (.tup [OS 0 .f32 (hfOut a p c), .b (hfOk a p c)]) := h_.call_of ps_impl_HarmonicFit ⟨oc_impl_HarmonicFit a p c, fun id σ => match id with | 0 => some (lv_impl_HarmonicFit_L0, .leaf (.normal, h_impl_HarmonicFit_L0 a p c (hfC a.length p c.toNat) a.length)) | _ => none⟩ (by kernel_rfl) ht

-- END impl_HarmonicFit


theorem hmL_len' (p : Nat) (at0 : Int) : ∀ n, (hmL p at0 n).length = 2 * n + 1
  | 0 => rfl
  | n + 1 => by
    have := hmL_len' p at0 n
    simp only [hmL, List.length_append, this]
    simp; omega
theorem hfC_len (m p c : Nat) : (hfC m p c).length = 2 * c + 1 := tab_len _ _
theorem tab_const {α : Type} (m : Nat) (x : α) : tab m (fun _ => x) = List.replicate m x := by
  unfold tab; rw [List.map_const', List.length_range]
theorem hfC_start (p c : Nat) : hfC 0 p c = List.replicate (2 * c + 1) [] := by
  show tab (2 * c + 1) (fun _ => ([] : List Nat)) = _
  rw [tab_const]
/-- place i is told in the first k columns -/
def hfP (i p c k : Nat) : LL := tab (2 * c + 1) fun k' => if k' < k then tab (i + 1) (fun i => (hmL p (i : Nat) c).getD k' 0) else tab i fun i => (hmL p (i : Nat) c).getD k' 0
theorem hfP_step (i p c k : Nat) (h : k < 2 * c + 1) : (hfP i p c k).set k ((hfP i p c k).getD k [] ++ [(hmL p (i : Nat) c).getD k 0]) = hfP i p c (k + 1) := by
  have e : (hfP i p c k).getD k [] = tab i fun i => (hmL p (i : Nat) c).getD k 0 := by
    unfold hfP; rw [tab_get _ _ _ _ h, if_neg (Nat.lt_irrefl k)]
  rw [e]
  unfold hfP
  rw [tab_set]
  refine tab_congr fun k' hk => ?_
  by_cases e2 : k' = k
  · subst e2; rw [if_pos rfl, if_pos (by omega), tab_succ]
  · rw [if_neg e2]
    by_cases h3 : k' < k
    · rw [if_pos h3, if_pos (by omega)]
    · rw [if_neg h3, if_neg (by omega)]

theorem more_one (p : Nat) : moreM [p] = (finM p && fgt .f32 p 0) := by simp [moreM]

theorem k_impl_HarmonicFit {P : Program} {f g1 g2 g3 g4 g5 g6 : FuncId} (h : Is_impl_HarmonicFit P f g1 g2 g3 g4 g5 g6) (c1 : C_impl_IsSeries P g1) (c2 : C_impl_areMore P g2) (c3 : C_impl_within P g3) (c4 : C_impl_harmonics P g4) (c5 : C_impl_areColumns P g5) (c6 : C_impl_columnFit P g6) : C_impl_HarmonicFit P f := by
  intro a p c hx
  have a2 := c2 [p] (by simp [maxLen_eq])
  refine q_impl_HarmonicFit h a p c ?_
  rw [more_one] at a2 ⊢
  refine ⟨c1 _ hx, fun _ => ⟨fun h1 => ?_, fun h1 => ⟨a2, fun _ => ⟨fun h2 => ?_, fun h2 => ⟨c3 _ _ _, fun _ => ⟨fun h3 => ?_, fun h3 => ?_⟩⟩⟩⟩⟩⟩
  · have h1 := bnot_t h1
    simp only [T.ok, hfOut, hfOk, hfG, h1, Bool.false_and, Bool.false_eq_true, if_false]
  · have h2 := bnot_t h2
    simp only [T.ok, hfOut, hfOk, hfG, h2, Bool.false_and, Bool.and_false, Bool.false_eq_true, if_false]
  · have h3 := bnot_t h3
    simp only [T.ok, hfOut, hfOk, hfG, h3, Bool.false_and, Bool.and_false, Bool.false_eq_true, if_false]
  · have h1 := bnot_f h1
    have h2 := bnot_f h2
    have h3 := bnot_f h3
    have hl := series_len h1
    have hi : 1 ≤ c ∧ c ≤ 2 := by simpa [inM] using h3
    obtain ⟨n, rfl⟩ : ∃ n : Nat, c = n := ⟨c.toNat, by omega⟩
    have w : IntKind.wrap .i64 (1 + IntKind.wrap .i64 (2 * (n : Int))) = (2 * n + 1 : Nat) := by
      rw [wrap64_id (n := 2 * (n : Int)) (by omega) (by omega), wrap64_id (by omega) (by omega)]; omega
    have hG : hfG a p n = true := by unfold hfG; rw [h1, h2, h3]; rfl
    rw [w]
    simp only [Int.toNat_natCast]
    have hcl := hfC_len a.length p n
    refine ⟨⟨trivial, by omega, by omega⟩, fun _ => ⟨?_, fun _ => ⟨?_, fun _ => ⟨fun h4 => ?_, fun h4 => ?_⟩⟩⟩⟩
    · refine for_up (e := .exit 0) a.length (fun i => h_impl_HarmonicFit_L0 a p n (hfC i p n) i) (by show _ = h_impl_HarmonicFit_L0 a p n (hfC 0 p n) _; rw [hfC_start]; rfl) (fun i hi => ?_) ?_
      · refine q_impl_HarmonicFit_L0 _ _ _ _ _ ?_
        simp only [Int.toNat_natCast]
        refine ⟨fun _ => ⟨c4 p n i (by omega) (by omega), fun _ => ⟨?_, fun _ => ?_⟩⟩, fun h => absurd (of_decide_eq_false h) (by omega)⟩
        · have e0 : hfC i p n = hfP i p n 0 := tab_congr fun k _ => by rw [if_neg (by omega)]
          have e1 : hfC (i + 1) p n = hfP i p n (2 * n + 1) := tab_congr fun k hk => by rw [if_pos hk]
          refine for_up (e := .exit 2) (2 * n + 1) (fun k => h_impl_HarmonicFit_L2 a p n (hfC i p n) i (hfP i p n k) (hmL p i n) k) (by show _ = h_impl_HarmonicFit_L2 a p n (hfC i p n) i (hfP i p n 0) (hmL p i n) _; rw [← e0]; rfl) (fun k hk => ?_) ?_
          · have hP : (hfP i p n k).length = 2 * n + 1 := tab_len _ _
            have hg : ((hfP i p n k).getD k []).length = i := by
              unfold hfP; rw [tab_get _ _ _ _ hk, if_neg (Nat.lt_irrefl k), tab_len]
            refine q_impl_HarmonicFit_L2 _ _ _ _ _ _ _ _ ?_
            simp only [Int.toNat_natCast, Nat.zero_add, hmL_len', hfP_step i p n k hk]
            refine ⟨fun _ => ⟨by omega, fun _ => ⟨by omega, fun _ => ⟨by rw [hg]; simp; omega, fun _ => ⟨by omega, fun _ => ⟨trivial, fun _ => ?_⟩⟩⟩⟩⟩, fun h => absurd (of_decide_eq_false h) (by omega)⟩
            show _ = _
            rw [wrap64_id (by omega) (by omega)]; rfl
          · refine q_impl_HarmonicFit_L2 _ _ _ _ _ _ _ _ ?_
            rw [Int.toNat_natCast, hmL_len', ← e1]
            exact ⟨fun h => absurd (of_decide_eq_true h) (by omega), fun _ => rfl⟩
        · show _ = _
          rw [wrap64_id (by omega) (by omega)]; rfl
      · exact q_impl_HarmonicFit_L0 _ _ _ _ _ ⟨fun h => absurd (of_decide_eq_true h) (by omega), fun _ => rfl⟩
    · have hrow : ∀ r ∈ hfC a.length p n, r.length ≤ maxLen := by
        intro r hr
        unfold hfC tab at hr
        simp only [List.mem_map] at hr
        obtain ⟨k, _, rfl⟩ := hr
        simp; exact hx
      have := c5 (hfC a.length p n) a.length (by rw [hcl, maxLen_eq]; omega) hrow (by omega)
      rw [Int.toNat_natCast] at this
      exact this
    · have h4 := bnot_t h4
      simp only [T.ok, hfOut, hfOk, ftOut, ftOk, ftC, Int.toNat_natCast, hG, h4, Bool.false_and, Bool.and_false, Bool.false_eq_true, if_false, if_true]
    · have h4 := bnot_f h4
      obtain ⟨f1, f2, f3⟩ := cols_facts h4
      refine ⟨c6 _ _ f1 (fun i hi => (f2 i hi).2) f3, fun _ => ?_⟩
      simp only [T.ok, hfOut, hfOk, ftOut, ftOk, ftC, ftT, Int.toNat_natCast, hG, h1, h4, Bool.true_and, if_true, ifAllM]
      cases cfOk (cfG (hfC a.length p n) a) (hfC a.length p n).length <;> cases finAllM (cfOut (cfG (hfC a.length p n) a) (hfC a.length p n).length) <;> rfl

end Go.Proofs.LV

namespace Go.Proofs.LV
open Go
set_option linter.unusedVariables false
set_option linter.unusedSimpArgs false

end Go.Proofs.LV
