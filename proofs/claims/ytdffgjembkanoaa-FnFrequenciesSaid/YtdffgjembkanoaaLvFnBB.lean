/- Sums of harmonics at a place; series that go down to both sides. -/
import Derived.Test.YtdffgjembkanoaaLvFnAA
import Derived.Test.YtdffgjembkanoaaLvFnDX
namespace Go.Proofs.LV
open Go
set_option linter.unusedVariables false
set_option linter.unusedSimpArgs false

def tpT (n i : Nat) : Nat := fdiv .f32 (fadd .f32 (fofi .f32 i) 1056964608) (fofi .f32 n)
def tpW (kind : Int) (n i : Nat) : Nat :=
  if kind = 1 then fsub .f32 1056964608 (fmul .f32 1056964608 (phM (fconv .f32 .f64 (tpT n i))).1)
  else if kind = 2 then fsub .f32 1065353216 (absF (fsub .f32 (fmul .f32 1073741824 (tpT n i)) 1065353216)) else 1065353216
def tpM (a : List Nat) (kind : Int) (n : Nat) : List Nat := tab n fun i => fmul .f32 (a.getD i 0) (tpW kind a.length i)
def tpOk (a : List Nat) (kind : Int) : Bool := (seriesM a && inM kind 0 2) && finAllM (tpM a kind a.length)

open Go.IntKind (wrap)
-- FN impl_Tapered
def ps_impl_Tapered : List Nat := [0, 1, 4, 5, 6, 7, 8, 9, 10, 18, 20, 21, 22, 23, 34, 35, 43]
def lv_impl_Tapered_L0 : List Nat := [0, 1, 6, 20, 21, 22]
def b_impl_Tapered_L0 (gq0 gq1 gq2 gq3 gq4 : FuncId) : VCode :=
 (.seq
 (.region false [
 ⟨some 23, (.bin .lss), [.t 22, .t 21], none⟩])
 (.seq
 (.cond (.t 23)
 .skip
 (.exit 0))
 (.seq
 (.block 1
 (.seq
 (.region false [
 ⟨some 24, .mv, [.t 22], none⟩,
 ⟨some 25, .iaddr, [.t 20, .t 22], none⟩,
 ⟨some 26, .load, [.t 25], none⟩,
 ⟨some 7, .mv, [.t 24], none⟩,
 ⟨some 8, .mv, [.t 26], none⟩])
 (.seq
 (.region false [
 ⟨some 27, .mv, [.t 7], none⟩,
 ⟨some 28, (.convF .f32), [.t 27], none⟩,
 ⟨some 29, (.bin .add), [.t 28, .k (.f .f32 1056964608)], none⟩,
 ⟨some 30, .mv, [.t 0], none⟩,
 ⟨some 31, .len, [.t 30], none⟩,
 ⟨some 32, (.convF .f32), [.t 31], none⟩,
 ⟨some 33, (.bin .quo), [.t 29, .t 32], none⟩,
 ⟨some 9, .mv, [.t 33], none⟩])
 (.seq
 (.region false [
 ⟨some 10, .mv, [.k (.f .f32 1065353216)], none⟩])
 (.seq
 (.seq
 (.region false [
 ⟨some 34, .mv, [.t 1], none⟩])
 (.block 2
 (.seq
 (.region false [
 ⟨some 36, (.bin .eql), [.t 34, .k (.i .i64 1)], none⟩,
 ⟨some 35, .mv, [.t 36], none⟩])
 (.cond (.t 35)
 (.region false [
 ⟨some 37, .mv, [.t 9], none⟩,
 ⟨some 38, (.convF .f64), [.t 37], none⟩,
 ⟨some 39, (.call gq2), [.t 38], none⟩,
 ⟨some 40, .re, [.t 39], none⟩,
 ⟨some 41, (.bin .mul), [.k (.f .f32 1056964608), .t 40], none⟩,
 ⟨some 42, (.bin .sub), [.k (.f .f32 1056964608), .t 41], none⟩,
 ⟨some 10, .mv, [.t 42], none⟩])
 (.seq
 (.region false [
 ⟨some 44, (.bin .eql), [.t 34, .k (.i .i64 2)], none⟩,
 ⟨some 43, .mv, [.t 44], none⟩])
 (.cond (.t 43)
 (.region false [
 ⟨some 45, .mv, [.t 9], none⟩,
 ⟨some 46, (.bin .mul), [.k (.f .f32 1073741824), .t 45], none⟩,
 ⟨some 47, (.bin .sub), [.t 46, .k (.f .f32 1065353216)], none⟩,
 ⟨some 48, (.call gq3), [.t 47], none⟩,
 ⟨some 49, (.bin .sub), [.k (.f .f32 1065353216), .t 48], none⟩,
 ⟨some 10, .mv, [.t 49], none⟩])
 .skip))))))
 (.region false [
 ⟨some 50, .mv, [.t 6], none⟩,
 ⟨some 51, .mv, [.t 8], none⟩,
 ⟨some 52, .mv, [.t 10], none⟩,
 ⟨some 53, (.bin .mul), [.t 51, .t 52], none⟩,
 ⟨some 54, (.lit true (.f .f32 [])), [.t 53], none⟩,
 ⟨some 55, .app, [.t 50, .t 54], none⟩,
 ⟨some 6, .mv, [.t 55], none⟩]))))))
 (.region false [
 ⟨some 56, (.bin .add), [.t 22, .k (.i .i64 1)], none⟩,
 ⟨some 22, .mv, [.t 56], none⟩]))))

def b_impl_Tapered (gq0 gq1 gq2 gq3 gq4 : FuncId) : VCode :=
 (.seq
 (.region false [
 ⟨some 4, (.nilsl (.f .f32 [])), [], none⟩,
 ⟨some 5, .mv, [.k (.b false)], none⟩])
 (.seq
 (.seq
 (.region false [
 ⟨some 11, .mv, [.t 0], none⟩,
 ⟨some 12, (.call gq0), [.t 11], none⟩,
 ⟨some 13, .not, [.t 12], none⟩,
 ⟨some 14, .mv, [.t 13], none⟩,
 ⟨some 15, .mv, [.t 1], some (14, false)⟩,
 ⟨some 16, (.call gq1), [.t 15, .k (.i .i64 0), .k (.i .i64 2)], some (14, false)⟩,
 ⟨some 17, .not, [.t 16], some (14, false)⟩,
 ⟨some 18, .pick, [.t 14, .k (.b true), .t 17], none⟩])
 (.cond (.t 18)
 (.seq
 (.region false [
 ⟨some 4, (.nilsl (.f .f32 [])), [], none⟩,
 ⟨some 5, .mv, [.k (.b false)], none⟩])
 .ret)
 .skip))
 (.seq
 (.region false [
 ⟨some 19, (.lit true (.f .f32 [])), [], none⟩,
 ⟨some 6, .mv, [.t 19], none⟩])
 (.seq
 (.seq
 (.region false [
 ⟨some 20, .mv, [.t 0], none⟩,
 ⟨some 21, .len, [.t 20], none⟩,
 ⟨some 22, .mv, [.k (.i .i64 0)], none⟩])
 (.block 0 (.loop (b_impl_Tapered_L0 gq0 gq1 gq2 gq3 gq4))))
 (.seq
 (.region false [
 ⟨some 57, .mv, [.t 6], none⟩,
 ⟨some 58, (.call gq4), [.t 57], none⟩,
 ⟨some 59, (.extract 0), [.t 58], none⟩,
 ⟨some 60, (.extract 1), [.t 58], none⟩,
 ⟨some 4, .mv, [.t 59], none⟩,
 ⟨some 5, .mv, [.t 60], none⟩])
 .ret)))))

abbrev Is_impl_Tapered (P : Program) (g_f : FuncId) (gq0 gq1 gq2 gq3 gq4 : FuncId) : Prop := FnIs P g_f 61 [.t 4, .t 5] (b_impl_Tapered gq0 gq1 gq2 gq3 gq4)

abbrev C_impl_Tapered (P : Program) (g_f : FuncId) : Prop := ∀ (a : List Nat) (kind : Int) (hx : a.length ≤ maxLen), VCall P g_f [PS [0] .f32 a, .i .i64 kind] (.tup [OS 0 .f32 (if tpOk a kind = true then tpM a kind a.length else []), .b (tpOk a kind)])
def oc_impl_Tapered (a : List Nat) (kind : Int) (d : Nat) (as : List AV) : T AV := match d with | 12 => oc1_impl_IsSeries as | 16 => oc1_impl_within as | 39 => oc1_impl_PhasorOf as | 48 => oc1_impl_absolute as | 58 => oc1_impl_ifAll as | _ => .fail
def h_impl_Tapered_L0 (a : List Nat) (kind : Int) (out : List Nat) (v22 : Int) : Env := [AV.sl (Tag.par [0]) 0 (Cont.f .f32 a), AV.i .i64 kind] ++ anys 4 ++ [.sl (Tag.own 152) 0 (.f .f32 out)] ++ anys 13 ++ [AV.sl (Tag.par [0]) 0 (Cont.f .f32 a), AV.i .i64 (↑(List.length a) : Int), .i .i64 v22] ++ anys 38

theorem q_impl_Tapered_L0 {VC : FuncId → List AV → AV → Prop} {gq0 gq1 gq2 gq3 gq4 : FuncId} (a : List Nat) (kind : Int) (out : List Nat) (v22 : Int) {e_ : Ex} {σ_ : Env} (ht : T.ok (fun x_ => x_ = (e_, σ_)) (
 T.ite (decide (v22 < (↑(List.length a) : Int)))
 (T.ob (0 ≤ v22 ∧ v22 < (↑(List.length a) : Int))
 (T.ob True
 (T.ob True
 (T.ob True
 (T.ite (kind == 1)
 (T.ob (fconvOk .f32 .f64 (fdiv .f32 (fadd .f32 (fofi .f32 v22) 1056964608) (fofi .f32 (↑(List.length a) : Int))) = true)
 (T.ob
 (VC gq2 [AV.f .f64 (fconv .f32 .f64 (fdiv .f32 (fadd .f32 (fofi .f32 v22) 1056964608) (fofi .f32 (↑(List.length a) : Int))))]
 (AV.c .f32
 (Prod.fst (phM (fconv .f32 .f64 (fdiv .f32 (fadd .f32 (fofi .f32 v22) 1056964608) (fofi .f32 (↑(Cont.len (Cont.f .f32 a)) : Int))))))
 (Prod.snd (phM (fconv .f32 .f64 (fdiv .f32 (fadd .f32 (fofi .f32 v22) 1056964608) (fofi .f32 (↑(Cont.len (Cont.f .f32 a)) : Int))))))))
 (T.ob
 (List.length out +
 List.length
 [fmul .f32 (List.getD a (Int.toNat v22) 0)
 (fsub .f32 1056964608
 (fmul .f32 1056964608
 (Prod.fst
 (phM
 (fconv .f32 .f64
 (fdiv .f32 (fadd .f32 (fofi .f32 v22) 1056964608) (fofi .f32 (↑(Cont.len (Cont.f .f32 a)) : Int))))))))] ≤
 4294967296)
 (T.leaf
 (Ex.normal,
 h_impl_Tapered_L0 a kind
 (out ++
 [fmul .f32 (List.getD a (Int.toNat v22) 0)
 (fsub .f32 1056964608
 (fmul .f32 1056964608
 (Prod.fst
 (phM
 (fconv .f32 .f64
 (fdiv .f32 (fadd .f32 (fofi .f32 v22) 1056964608) (fofi .f32 (↑(Cont.len (Cont.f .f32 a)) : Int))))))))])
 (wrap .i64 (v22 + 1)))))))
 (T.ite (kind == 2)
 (T.ob
 (VC gq3
 [AV.f .f32
 (fsub .f32 (fmul .f32 1073741824 (fdiv .f32 (fadd .f32 (fofi .f32 v22) 1056964608) (fofi .f32 (↑(List.length a) : Int)))) 1065353216)]
 (AV.f .f32
 (absF (fsub .f32 (fmul .f32 1073741824 (fdiv .f32 (fadd .f32 (fofi .f32 v22) 1056964608) (fofi .f32 (↑(List.length a) : Int)))) 1065353216))))
 (T.ob
 (List.length out +
 List.length
 [fmul .f32 (List.getD a (Int.toNat v22) 0)
 (fsub .f32 1065353216
 (absF
 (fsub .f32 (fmul .f32 1073741824 (fdiv .f32 (fadd .f32 (fofi .f32 v22) 1056964608) (fofi .f32 (↑(List.length a) : Int))))
 1065353216)))] ≤
 4294967296)
 (T.leaf
 (Ex.normal,
 h_impl_Tapered_L0 a kind
 (out ++
 [fmul .f32 (List.getD a (Int.toNat v22) 0)
 (fsub .f32 1065353216
 (absF
 (fsub .f32 (fmul .f32 1073741824 (fdiv .f32 (fadd .f32 (fofi .f32 v22) 1056964608) (fofi .f32 (↑(List.length a) : Int))))
 1065353216)))])
 (wrap .i64 (v22 + 1))))))
 (T.ob (List.length out + List.length [fmul .f32 (List.getD a (Int.toNat v22) 0) 1065353216] ≤ 4294967296)
 (T.leaf (Ex.normal, h_impl_Tapered_L0 a kind (out ++ [fmul .f32 (List.getD a (Int.toNat v22) 0) 1065353216]) (wrap .i64 (v22 + 1)))))))))))
 (T.leaf (Ex.exit 0, h_impl_Tapered_L0 a kind out v22)))) :
 Exec VC ps_impl_Tapered (b_impl_Tapered_L0 gq0 gq1 gq2 gq3 gq4) (h_impl_Tapered_L0 a kind out v22) e_ σ_ := evL_of (lv := lv_impl_Tapered_L0) (rs := [4, 5]) (O := ⟨oc_impl_Tapered a kind, fun _ _ => none⟩) (by kernel_rfl) ht

theorem q_impl_Tapered {P : Program} {g_f : FuncId} {gq0 gq1 gq2 gq3 gq4 : FuncId} (h_ : Is_impl_Tapered P g_f gq0 gq1 gq2 gq3 gq4) (a : List Nat) (kind : Int) (ht : T.ok (fun x_ => x_ = .tup [OS 0 .f32 (if tpOk a kind = true then tpM a kind a.length else []), .b (tpOk a kind)]) (
 T.ob ((VCall P) gq0 [AV.sl (Tag.par [0]) 0 (Cont.f .f32 a)] (AV.b (seriesM a)))
 (T.ite (!seriesM a) (T.leaf (AV.tup [AV.sl (Tag.own 0) 0 (Cont.f .f32 []), AV.b false]))
 (T.ob ((VCall P) gq1 [AV.i .i64 kind, AV.i .i64 0, AV.i .i64 2] (AV.b (inM kind 0 2)))
 (T.ite (!inM kind 0 2) (T.leaf (AV.tup [AV.sl (Tag.own 0) 0 (Cont.f .f32 []), AV.b false]))
 (T.ob
 (Exec (VCall P) ps_impl_Tapered (VCode.block 0 (VCode.loop (b_impl_Tapered_L0 gq0 gq1 gq2 gq3 gq4))) (h_impl_Tapered_L0 a kind [] 0) Ex.normal
 (h_impl_Tapered_L0 a kind (tpM a kind (List.length a)) (↑(List.length a) : Int)))
 (T.ob
 ((VCall P) gq4 [AV.sl (Tag.par [0]) 0 (Cont.f .f32 (tpM a kind (List.length a)))]
 (AV.tup [AV.sl (Tag.par [0]) 0 (Cont.f .f32 (ifAllM (tpM a kind (List.length a)))), AV.b (finAllM (tpM a kind (List.length a)))]))
 (T.leaf (AV.tup [AV.sl (Tag.own 0) 0 (Cont.f .f32 (ifAllM (tpM a kind (List.length a)))), AV.b (finAllM (tpM a kind (List.length a)))]))))))))) :
 VCall P g_f [PS [0] .f32 a, .i .i64 kind] (.tup [OS 0 .f32 (if tpOk a kind = true then tpM a kind a.length else []), .b (tpOk a kind)]) := h_.call_of ps_impl_Tapered ⟨oc_impl_Tapered a kind, fun id σ => match id with | 0 => some (lv_impl_Tapered_L0, .leaf (.normal, h_impl_Tapered_L0 a kind (tpM a kind a.length) a.length)) | _ => none⟩ (by kernel_rfl) ht

-- END impl_Tapered

/-! ### tapers -/
theorem tp_1 {kind : Int} (h : kind = 1) (n i : Nat) : tpW kind n i = fsub .f32 1056964608 (fmul .f32 1056964608 (phM (fconv .f32 .f64 (tpT n i))).1) := by unfold tpW; rw [if_pos h]
theorem tp_2 {kind : Int} (h : kind = 2) (n i : Nat) : tpW kind n i = fsub .f32 1065353216 (absF (fsub .f32 (fmul .f32 1073741824 (tpT n i)) 1065353216)) := by unfold tpW; rw [if_neg (by omega), if_pos h]
theorem tp_3 {kind : Int} (h1 : kind ≠ 1) (h2 : kind ≠ 2) (n i : Nat) : tpW kind n i = 1065353216 := by unfold tpW; rw [if_neg h1, if_neg h2]
theorem tp_len (a : List Nat) (kind : Int) (n : Nat) : (tpM a kind n).length = n := tab_len _ _
theorem tp_succ (a : List Nat) (kind : Int) (n : Nat) : tpM a kind (n + 1) = tpM a kind n ++ [fmul .f32 (a.getD n 0) (tpW kind a.length n)] := tab_succ _ _
theorem k_impl_Tapered {P : Program} {f g1 g2 g3 g4 g5 : FuncId} (h : Is_impl_Tapered P f g1 g2 g3 g4 g5) (c1 : C_impl_IsSeries P g1) (c2 : C_impl_within P g2) (c3 : C_impl_PhasorOf P g3) (c4 : C_impl_absolute P g4) (c5 : C_impl_ifAll P g5) : C_impl_Tapered P f := by
  intro a kind hx
  refine q_impl_Tapered h a kind ?_
  cases hs : seriesM a
  · repeat' (first | with_reducible refine T.ok_ob ?_ (fun _ => ?_) | with_reducible refine T.ok_ite (fun _ => ?_) (fun _ => ?_) | with_reducible refine T.ok_leaf ?_)
    all_goals first | exact hs ▸ c1 _ hx | contradiction | (simp [tpOk, hs]; done)
  cases hi : inM kind 0 2
  · repeat' (first | with_reducible refine T.ok_ob ?_ (fun _ => ?_) | with_reducible refine T.ok_ite (fun _ => ?_) (fun _ => ?_) | with_reducible refine T.ok_leaf ?_)
    all_goals first | exact hs ▸ c1 _ hx | exact hi ▸ c2 _ _ _ | contradiction | (simp [tpOk, hs, hi]; done)
  have hl := series_len hs
  have c5 := c5 (tpM a kind a.length) (by rw [tp_len, maxLen_eq]; omega)
  repeat' (first | with_reducible refine T.ok_ob ?_ (fun _ => ?_) | with_reducible refine T.ok_ite (fun _ => ?_) (fun _ => ?_) | with_reducible refine T.ok_leaf ?_)
  all_goals first | exact hs ▸ c1 _ hx | exact hi ▸ c2 _ _ _ | contradiction | exact c5 | (simp [tpOk, hs, hi, ifAllM]; done) | skip
  refine for_up (e := .exit 0) a.length (fun i => h_impl_Tapered_L0 a kind (tpM a kind i) i) rfl (fun i hi => ?_) ?_
  · refine q_impl_Tapered_L0 _ _ _ _ ?_
    have tl := tp_len a kind i
    have d3 := c3 (fconv .f32 .f64 (tpT a.length i))
    have d4 := c4 (fsub .f32 (fmul .f32 1073741824 (tpT a.length i)) 1065353216)
    rw [show fdiv .f32 (fadd .f32 (fofi .f32 (i : Int)) 1056964608) (fofi .f32 (a.length : Int)) = tpT a.length i from rfl]
    rw [tp_succ]
    repeat' (first | with_reducible refine T.ok_ob ?_ (fun _ => ?_) | with_reducible refine T.ok_ite (fun _ => ?_) (fun _ => ?_) | with_reducible refine T.ok_leaf ?_)
    all_goals (try simp only [decide_eq_true_eq, decide_eq_false_iff_not, Bool.not_eq_true', Bool.not_eq_false', Bool.not_eq_eq_eq_not, Bool.not_true, Bool.not_false, Int.toNat_natCast, tab_len, List.length_append, List.length_singleton, List.length_cons, List.length_nil, List.length_drop, List.length_take, getD_drop', getD_nat, reduceCtorEq] at *)
    all_goals (try simp (disch := omega) only [wrap64_id] at *)
    all_goals first | omega | (exfalso; omega) | exact True.intro | skip
    all_goals first | exact fconvOk_32_64 _ | exact d3 | exact d4 | (simp only [beq_iff_eq, beq_eq_false_iff_ne] at *; first | (rw [tp_1 (by assumption)]; rfl) | (rw [tp_2 (by assumption)]; rfl) | (rw [tp_3 (by assumption) (by assumption)]; rfl))
  · refine q_impl_Tapered_L0 _ _ _ _ ?_
    repeat' (first | with_reducible refine T.ok_ob ?_ (fun _ => ?_) | with_reducible refine T.ok_ite (fun _ => ?_) (fun _ => ?_) | with_reducible refine T.ok_leaf ?_)
    all_goals (try simp only [decide_eq_true_eq, decide_eq_false_iff_not, Bool.not_eq_true', Bool.not_eq_false', Bool.not_eq_eq_eq_not, Bool.not_true, Bool.not_false, Int.toNat_natCast, tab_len, List.length_append, List.length_singleton, List.length_cons, List.length_nil, List.length_drop, List.length_take, getD_drop', getD_nat, reduceCtorEq] at *)
    all_goals (try simp (disch := omega) only [wrap64_id] at *)
    all_goals first | omega | (exfalso; omega) | exact True.intro | skip
    all_goals rfl
end Go.Proofs.LV
