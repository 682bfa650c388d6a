/- Texts that belong together. -/
import Derived.Test.YtjfgmnfkkehgfaaLvFnF
namespace Go.Proofs.LV
open Go
set_option linter.unusedVariables false
set_option linter.unusedSimpArgs false

-- FN impl_folded
-- END impl_folded



-- FN impl_isPeriodOf
-- END impl_isPeriodOf




end Go.Proofs.LV

namespace Go.Proofs.LV
open Go
set_option linter.unusedVariables false
set_option linter.unusedSimpArgs false

/-! ### steps -/
def squaresM (xs : List Nat) : Nat := dotM (lessOneM xs (meanM xs)) (lessOneM xs (meanM xs))
-- FN impl_squares
def ps_impl_squares : List Nat := [0, 2, 3]
def b_impl_squares (gq0 gq1 gq2 : FuncId) : VCode :=
 (.seq
 (.region false [
 ⟨some 2, .mv, [.k (.f .f32 0)], none⟩])
 (.seq
 (.region false [
 ⟨some 4, .mv, [.t 0], none⟩,
 ⟨some 5, .mv, [.t 0], none⟩,
 ⟨some 6, (.call gq0), [.t 5], none⟩,
 ⟨some 7, (.call gq1), [.t 4, .t 6], none⟩,
 ⟨some 3, .mv, [.t 7], none⟩])
 (.seq
 (.region false [
 ⟨some 8, .mv, [.t 3], none⟩,
 ⟨some 9, .mv, [.t 3], none⟩,
 ⟨some 10, (.call gq2), [.t 8, .t 9], none⟩,
 ⟨some 2, .mv, [.t 10], none⟩])
 .ret)))

abbrev Is_impl_squares (P : Program) (g_f : FuncId) (gq0 gq1 gq2 : FuncId) : Prop := FnIs P g_f 11 [.t 2] (b_impl_squares gq0 gq1 gq2)

abbrev C_impl_squares (P : Program) (g_f : FuncId) : Prop := ∀ (xs : List Nat) (hx : xs.length ≤ 96), VCall P g_f [PS [0] .f32 xs] (.f .f32 (squaresM xs))
def oc1_impl_squares (as : List AV) : T AV := match as with | [.sl _ _ (.f .f32 xs)] => .leaf (.f .f32 (squaresM xs)) | _ => .fail
def oc_impl_squares (xs : List Nat) (d : Nat) (as : List AV) : T AV := match d with | 6 => oc1_impl_mean as | 7 => oc1_impl_lessOne as | 10 => oc1_impl_dot as | _ => .fail



theorem q_impl_squares {P : Program} {g_f : FuncId} {gq0 gq1 gq2 : FuncId} (h_ : Is_impl_squares P g_f gq0 gq1 gq2) (xs : List Nat) (ht : T.ok (fun x_ => x_ = .f .f32 (squaresM xs)) (
 T.ob ((VCall P) gq0 [AV.sl (Tag.par [0]) 0 (Cont.f .f32 xs)] (AV.f .f32 (meanM xs)))
 (T.ob ((VCall P) gq1 [AV.sl (Tag.par [0]) 0 (Cont.f .f32 xs), AV.f .f32 (meanM xs)] (AV.sl (Tag.own 0) 0 (Cont.f .f32 (lessOneM xs (meanM xs)))))
 (T.ob
 ((VCall P) gq2 [AV.sl (Tag.par [0]) 0 (Cont.f .f32 (lessOneM xs (meanM xs))), AV.sl (Tag.par [1]) 0 (Cont.f .f32 (lessOneM xs (meanM xs)))]
 (AV.f .f32 (dotM (lessOneM xs (meanM xs)) (lessOneM xs (meanM xs)))))
 (T.leaf (AV.f .f32 (dotM (lessOneM xs (meanM xs)) (lessOneM xs (meanM xs))))))))) :
 VCall P g_f [PS [0] .f32 xs] (.f .f32 (squaresM xs)) := h_.call_of ps_impl_squares ⟨oc_impl_squares xs, fun _ _ => none⟩ (by kernel_rfl) ht

-- END impl_squares






/-! ### seasons -/
-- FN impl_season
-- END impl_season




/-! ### the best period -/
-- FN impl_areWorkers
def ps_impl_areWorkers : List Nat := [0, 2]
def b_impl_areWorkers (gq0 : FuncId) : VCode :=
 (.seq
 (.region false [
 ⟨some 2, .mv, [.k (.b false)], none⟩])
 (.seq
 (.region false [
 ⟨some 3, .mv, [.t 0], none⟩,
 ⟨some 4, (.call gq0), [.t 3, .k (.i .i64 1), .k (.i .i64 8)], none⟩,
 ⟨some 2, .mv, [.t 4], none⟩])
 .ret))

abbrev Is_impl_areWorkers (P : Program) (g_f : FuncId) (gq0 : FuncId) : Prop := FnIs P g_f 5 [.t 2] (b_impl_areWorkers gq0)

abbrev C_impl_areWorkers (P : Program) (g_f : FuncId) : Prop := ∀ (n : Int), VCall P g_f [.i .i64 n] (.b (inM n 1 8))
def oc1_impl_areWorkers (as : List AV) : T AV := match as with | [.i .i64 n] => .leaf (.b (inM n 1 8)) | _ => .fail
def oc_impl_areWorkers (n : Int) (d : Nat) (as : List AV) : T AV := match d with | 4 => oc1_impl_within as | _ => .fail



theorem q_impl_areWorkers {P : Program} {g_f : FuncId} {gq0 : FuncId} (h_ : Is_impl_areWorkers P g_f gq0) (n : Int) (ht : T.ok (fun x_ => x_ = .b (inM n 1 8)) (
 T.ob ((VCall P) gq0 [AV.i .i64 n, AV.i .i64 1, AV.i .i64 8] (AV.b (inM n 1 8))) (T.leaf (AV.b (inM n 1 8))))) :
 VCall P g_f [.i .i64 n] (.b (inM n 1 8)) := h_.call_of ps_impl_areWorkers ⟨oc_impl_areWorkers n, fun _ _ => none⟩ (by kernel_rfl) ht

-- END impl_areWorkers



theorem k_impl_squares {P : Program} {f g_impl_mean g_impl_lessOne g_impl_dot : FuncId} (h : Is_impl_squares P f g_impl_mean g_impl_lessOne g_impl_dot) (c1 : C_impl_mean P g_impl_mean) (c2 : C_impl_lessOne P g_impl_lessOne) (c3 : C_impl_dot P g_impl_dot) : C_impl_squares P f := by
  intro xs hx
  refine q_impl_squares h xs ?_
  have l1 := lessOne_len xs (meanM xs)
  repeat' (first | with_reducible refine T.ok_ob ?_ (fun _ => ?_) | with_reducible refine T.ok_ite (fun _ => ?_) (fun _ => ?_) | with_reducible refine T.ok_leaf ?_)
  all_goals first | with_reducible rfl | with_reducible assumption | ((with_reducible refine c1 _ ?_) <;> (first | assumption | omega | with_reducible rfl | (simp [maxLen_eq]; done) | (simp [maxLen_eq]; omega))) | ((with_reducible refine c2 _ _ ?_) <;> (first | assumption | omega | with_reducible rfl | (simp [maxLen_eq]; done) | (simp [maxLen_eq]; omega))) | ((with_reducible refine c3 _ _ ?_ ?_) <;> (first | assumption | omega | with_reducible rfl | (simp [maxLen_eq]; done) | (simp [maxLen_eq]; omega))) | contradiction | exact fconvOk_32_64 _ | assumption | exact rfl | (simp_all []; done) | (simp_all [T.ok]; omega)

theorem k_impl_areWorkers {P : Program} {f g_impl_within : FuncId} (h : Is_impl_areWorkers P f g_impl_within) (c1 : C_impl_within P g_impl_within) : C_impl_areWorkers P f := by
  intro n
  refine q_impl_areWorkers h n ?_
  repeat' (first | with_reducible refine T.ok_ob ?_ (fun _ => ?_) | with_reducible refine T.ok_ite (fun _ => ?_) (fun _ => ?_) | with_reducible refine T.ok_leaf ?_)
  all_goals first | with_reducible rfl | with_reducible assumption | with_reducible exact c1 _ _ _ | contradiction | exact fconvOk_32_64 _ | assumption | exact rfl | (simp_all []; done) | (simp_all [T.ok]; omega)

end Go.Proofs.LV

namespace Go.Proofs.LV
open Go
set_option linter.unusedVariables false
set_option linter.unusedSimpArgs false

abbrev LL := List (List Nat)
abbrev PF (p : List Nat) (xs : LL) : AV := .sl (.par p) 0 (.ff .f32 xs)
def offM (a : List Nat) : List Nat := lessOneM a (meanM a)
/-! ### guesses ahead -/
/-! ### means of series -/
def meanOk (xs : List Nat) : Bool := seriesM xs && finM (meanM xs)

open Go.IntKind (wrap)
-- FN impl_MeanOf
def ps_impl_MeanOf : List Nat := [0, 2, 3, 6]
def b_impl_MeanOf (gq0 gq1 gq2 : FuncId) : VCode :=
 (.seq
 (.region false [
 ⟨some 2, .mv, [.k (.f .f32 0)], none⟩,
 ⟨some 3, .mv, [.k (.b false)], none⟩])
 (.seq
 (.seq
 (.region false [
 ⟨some 4, .mv, [.t 0], none⟩,
 ⟨some 5, (.call gq0), [.t 4], none⟩,
 ⟨some 6, .not, [.t 5], none⟩])
 (.cond (.t 6)
 (.seq
 (.region false [
 ⟨some 2, .mv, [.k (.f .f32 0)], none⟩,
 ⟨some 3, .mv, [.k (.b false)], none⟩])
 .ret)
 .skip))
 (.seq
 (.region false [
 ⟨some 7, .mv, [.t 0], none⟩,
 ⟨some 8, (.call gq1), [.t 7], none⟩,
 ⟨some 9, (.call gq2), [.t 8], none⟩,
 ⟨some 10, (.extract 0), [.t 9], none⟩,
 ⟨some 11, (.extract 1), [.t 9], none⟩,
 ⟨some 2, .mv, [.t 10], none⟩,
 ⟨some 3, .mv, [.t 11], none⟩])
 .ret)))

abbrev Is_impl_MeanOf (P : Program) (g_f : FuncId) (gq0 gq1 gq2 : FuncId) : Prop := FnIs P g_f 12 [.t 2, .t 3] (b_impl_MeanOf gq0 gq1 gq2)

abbrev C_impl_MeanOf (P : Program) (g_f : FuncId) : Prop := ∀ (xs : List Nat) (hx : xs.length ≤ maxLen), VCall P g_f [PS [0] .f32 xs] (.tup [.f .f32 (if meanOk xs = true then meanM xs else 0), .b (meanOk xs)])
def oc1_impl_MeanOf (as : List AV) : T AV := match as with | [.sl _ _ (.f .f32 xs)] => .leaf (.tup [.f .f32 (if meanOk xs = true then meanM xs else 0), .b (meanOk xs)]) | _ => .fail
def oc_impl_MeanOf (xs : List Nat) (d : Nat) (as : List AV) : T AV := match d with | 5 => oc1_impl_IsSeries as | 8 => oc1_impl_mean as | 9 => oc1_impl_ifFinite as | _ => .fail



theorem q_impl_MeanOf {P : Program} {g_f : FuncId} {gq0 gq1 gq2 : FuncId} (h_ : Is_impl_MeanOf P g_f gq0 gq1 gq2) (xs : List Nat) (ht : T.ok (fun x_ => x_ = .tup [.f .f32 (if meanOk xs = true then meanM xs else 0), .b (meanOk xs)]) (
 T.ob ((VCall P) gq0 [AV.sl (Tag.par [0]) 0 (Cont.f .f32 xs)] (AV.b (seriesM xs)))
 (T.ite (!seriesM xs) (T.leaf (AV.tup [AV.f .f32 0, AV.b false]))
 (T.ob ((VCall P) gq1 [AV.sl (Tag.par [0]) 0 (Cont.f .f32 xs)] (AV.f .f32 (meanM xs)))
 (T.ob ((VCall P) gq2 [AV.f .f32 (meanM xs)] (AV.tup [AV.f .f32 (numM (meanM xs)), AV.b (finM (meanM xs))])) (T.leaf (AV.tup [AV.f .f32 (numM (meanM xs)), AV.b (finM (meanM xs))]))))))) :
 VCall P g_f [PS [0] .f32 xs] (.tup [.f .f32 (if meanOk xs = true then meanM xs else 0), .b (meanOk xs)]) := h_.call_of ps_impl_MeanOf ⟨oc_impl_MeanOf xs, fun _ _ => none⟩ (by kernel_rfl) ht

-- END impl_MeanOf


def msFin (xs : LL) : Bool := allN xs.length fun i => meanOk (xs.getD i [])
def msOk (xs : LL) (w : Int) : Bool := decide (1 ≤ xs.length) && (decide (xs.length ≤ 16) && (inM w 1 8 && msFin xs))
def msM (xs : LL) : List Nat := tab xs.length fun i => meanM (xs.getD i [])

-- FN impl_MeansShared
def ps_impl_MeansShared : List Nat := [0, 1, 4, 5, 6, 8, 9, 10, 23, 25, 26, 27, 28, 37]
def lv_impl_MeansShared_L0 : List Nat := [6, 25, 26, 27]
def b_impl_MeansShared_L0 (gq0 gq1 : FuncId) : VCode :=
 (.seq
 (.region false [
 ⟨some 28, (.bin .lss), [.t 27, .t 26], none⟩])
 (.seq
 (.cond (.t 28)
 .skip
 (.exit 0))
 (.seq
 (.block 1
 (.seq
 (.region false [
 ⟨some 29, .iaddr, [.t 25, .t 27], none⟩,
 ⟨some 30, .load, [.t 29], none⟩,
 ⟨some 8, .mv, [.t 30], none⟩])
 (.seq
 (.region false [
 ⟨some 32, .mv, [.t 8], none⟩,
 ⟨some 33, (.call gq1), [.t 32], none⟩,
 ⟨some 31, .mv, [.t 33], none⟩,
 ⟨some 34, (.extract 0), [.t 31], none⟩,
 ⟨some 35, (.extract 1), [.t 31], none⟩,
 ⟨some 9, .mv, [.t 34], none⟩,
 ⟨some 10, .mv, [.t 35], none⟩])
 (.seq
 (.seq
 (.region false [
 ⟨some 36, .mv, [.t 10], none⟩,
 ⟨some 37, .not, [.t 36], none⟩])
 (.cond (.t 37)
 (.seq
 (.region false [
 ⟨some 4, (.nilsl (.f .f32 [])), [], none⟩,
 ⟨some 5, .mv, [.k (.b false)], none⟩])
 .ret)
 .skip))
 (.region false [
 ⟨some 38, .mv, [.t 6], none⟩,
 ⟨some 39, .mv, [.t 9], none⟩,
 ⟨some 40, (.lit true (.f .f32 [])), [.t 39], none⟩,
 ⟨some 41, .app, [.t 38, .t 40], none⟩,
 ⟨some 6, .mv, [.t 41], none⟩])))))
 (.region false [
 ⟨some 42, (.bin .add), [.t 27, .k (.i .i64 1)], none⟩,
 ⟨some 27, .mv, [.t 42], none⟩]))))

def b_impl_MeansShared (gq0 gq1 : FuncId) : VCode :=
 (.seq
 (.region false [
 ⟨some 4, (.nilsl (.f .f32 [])), [], none⟩,
 ⟨some 5, .mv, [.k (.b false)], none⟩])
 (.seq
 (.seq
 (.region false [
 ⟨some 11, .mv, [.t 0], none⟩,
 ⟨some 12, .len, [.t 11], none⟩,
 ⟨some 13, (.bin .lss), [.t 12, .k (.i .i64 1)], none⟩,
 ⟨some 14, .mv, [.t 13], none⟩,
 ⟨some 15, .mv, [.t 0], some (14, false)⟩,
 ⟨some 16, .len, [.t 15], some (14, false)⟩,
 ⟨some 17, (.bin .gtr), [.t 16, .k (.i .i64 16)], some (14, false)⟩,
 ⟨some 18, .pick, [.t 14, .k (.b true), .t 17], none⟩,
 ⟨some 19, .mv, [.t 18], none⟩,
 ⟨some 20, .mv, [.t 1], some (19, false)⟩,
 ⟨some 21, (.call gq0), [.t 20], some (19, false)⟩,
 ⟨some 22, .not, [.t 21], some (19, false)⟩,
 ⟨some 23, .pick, [.t 19, .k (.b true), .t 22], none⟩])
 (.cond (.t 23)
 (.seq
 (.region false [
 ⟨some 4, (.nilsl (.f .f32 [])), [], none⟩,
 ⟨some 5, .mv, [.k (.b false)], none⟩])
 .ret)
 .skip))
 (.seq
 (.region false [
 ⟨some 24, (.lit true (.f .f32 [])), [], none⟩,
 ⟨some 6, .mv, [.t 24], none⟩])
 (.seq
 (.seq
 (.region false [
 ⟨some 25, .mv, [.t 0], none⟩,
 ⟨some 26, .len, [.t 25], none⟩,
 ⟨some 27, .mv, [.k (.i .i64 0)], none⟩])
 (.block 0 (.loop (b_impl_MeansShared_L0 gq0 gq1))))
 (.seq
 (.region false [
 ⟨some 43, .mv, [.t 6], none⟩,
 ⟨some 4, .mv, [.t 43], none⟩,
 ⟨some 5, .mv, [.k (.b true)], none⟩])
 .ret)))))

abbrev Is_impl_MeansShared (P : Program) (g_f : FuncId) (gq0 gq1 : FuncId) : Prop := FnIs P g_f 44 [.t 4, .t 5] (b_impl_MeansShared gq0 gq1)

abbrev C_impl_MeansShared (P : Program) (g_f : FuncId) : Prop := ∀ (xs : LL) (w : Int) (hx : xs.length ≤ maxLen) (hy : ∀ x ∈ xs, x.length ≤ maxLen), VCall P g_f [PF [0] xs, .i .i64 w] (.tup [OS 0 .f32 (if msOk xs w = true then msM xs else []), .b (msOk xs w)])
def oc_impl_MeansShared (xs : LL) (w : Int) (d : Nat) (as : List AV) : T AV := match d with | 21 => oc1_impl_areWorkers as | 33 => oc1_impl_MeanOf as | _ => .fail
def h_impl_MeansShared_L0 (xs : LL) (w : Int) (out : List Nat) (v27 : Int) : Env := anys 6 ++ [.sl (Tag.own 192) 0 (.f .f32 out)] ++ anys 18 ++ [AV.sl (Tag.par [0]) 0 (Cont.ff .f32 xs), AV.i .i64 (↑(List.length xs) : Int), .i .i64 v27] ++ anys 16

theorem q_impl_MeansShared_L0 {VC : FuncId → List AV → AV → Prop} {gq0 gq1 : FuncId} (xs : LL) (w : Int) (out : List Nat) (v27 : Int) {e_ : Ex} {σ_ : Env} (ht : T.ok (fun x_ => x_ = (e_, σ_)) (
 T.ite (decide (v27 < (↑(List.length xs) : Int)))
 (T.ob (0 ≤ v27 ∧ v27 < (↑(List.length xs) : Int))
 (T.ob
 (VC gq1 [AV.sl (Tag.par [0]) 0 (Cont.f .f32 (List.getD xs (Int.toNat v27) []))]
 (AV.tup [AV.f .f32 (if meanOk (List.getD xs (Int.toNat v27) []) = true then meanM (List.getD xs (Int.toNat v27) []) else 0), AV.b (meanOk (List.getD xs (Int.toNat v27) []))]))
 (T.ite (!meanOk (List.getD xs (Int.toNat v27) [])) (T.leaf (Ex.ret, anys 4 ++ AV.sl Tag.nil 0 (Cont.f .f32 []) :: AV.b false :: anys 38))
 (T.ob (List.length out + List.length [if meanOk (List.getD xs (Int.toNat v27) []) = true then meanM (List.getD xs (Int.toNat v27) []) else 0] ≤ 4294967296)
 (T.leaf (Ex.normal, h_impl_MeansShared_L0 xs w (out ++ [if meanOk (List.getD xs (Int.toNat v27) []) = true then meanM (List.getD xs (Int.toNat v27) []) else 0]) (wrap .i64 (v27 + 1))))))))
 (T.leaf (Ex.exit 0, h_impl_MeansShared_L0 xs w out v27)))) :
 Exec VC ps_impl_MeansShared (b_impl_MeansShared_L0 gq0 gq1) (h_impl_MeansShared_L0 xs w out v27) e_ σ_ := evL_of (lv := lv_impl_MeansShared_L0) (rs := [4, 5]) (O := ⟨oc_impl_MeansShared xs w, fun _ _ => none⟩) (by kernel_rfl) ht

theorem q_impl_MeansShared {P : Program} {g_f : FuncId} {gq0 gq1 : FuncId} (h_ : Is_impl_MeansShared P g_f gq0 gq1) (xs : LL) (w : Int) (ht : T.ok (fun x_ => x_ = .tup [OS 0 .f32 (if msOk xs w = true then msM xs else []), .b (msOk xs w)]) (
 T.ite (decide ((↑(List.length xs) : Int) < 1)) (T.leaf (AV.tup [AV.sl (Tag.own 0) 0 (Cont.f .f32 []), AV.b false]))
 (T.ite (decide ((↑(List.length xs) : Int) > 16)) (T.leaf (AV.tup [AV.sl (Tag.own 0) 0 (Cont.f .f32 []), AV.b false]))
 (T.ob ((VCall P) gq0 [AV.i .i64 w] (AV.b (inM w 1 8)))
 (T.ite (!inM w 1 8) (T.leaf (AV.tup [AV.sl (Tag.own 0) 0 (Cont.f .f32 []), AV.b false]))
 (T.ite (msFin xs)
 (T.ob
 (Exec (VCall P) ps_impl_MeansShared (VCode.block 0 (VCode.loop (b_impl_MeansShared_L0 gq0 gq1))) (h_impl_MeansShared_L0 xs w [] 0) Ex.normal
 (h_impl_MeansShared_L0 xs w (msM xs) (↑(List.length xs) : Int)))
 (T.leaf (AV.tup [AV.sl (Tag.own 0) 0 (Cont.f .f32 (msM xs)), AV.b true])))
 (T.ob
 (Exec (VCall P) ps_impl_MeansShared (VCode.block 0 (VCode.loop (b_impl_MeansShared_L0 gq0 gq1))) (h_impl_MeansShared_L0 xs w [] 0) Ex.ret
 (anys 4 ++ AV.sl Tag.nil 0 (Cont.f .f32 []) :: AV.b false :: anys 38))
 (T.leaf (AV.tup [AV.sl (Tag.own 0) 0 (Cont.f .f32 []), AV.b false]))))))))) :
 VCall P g_f [PF [0] xs, .i .i64 w] (.tup [OS 0 .f32 (if msOk xs w = true then msM xs else []), .b (msOk xs w)]) := h_.call_of ps_impl_MeansShared ⟨oc_impl_MeansShared xs w, fun id σ => match id with | 0 => some (lv_impl_MeansShared_L0, .ite (msFin xs) (.leaf (.normal, h_impl_MeansShared_L0 xs w (msM xs) xs.length)) (.leaf (.ret, anys 4 ++ .sl .nil 0 (.f .f32 []) :: .b false :: anys 38))) | _ => none⟩ (by kernel_rfl) ht

-- END impl_MeansShared


theorem k_impl_MeanOf {P : Program} {f g_impl_IsSeries g_impl_mean g_impl_ifFinite : FuncId} (h : Is_impl_MeanOf P f g_impl_IsSeries g_impl_mean g_impl_ifFinite) (c1 : C_impl_IsSeries P g_impl_IsSeries) (c2 : C_impl_mean P g_impl_mean) (c3 : C_impl_ifFinite P g_impl_ifFinite) : C_impl_MeanOf P f := by
  intro xs hx
  refine q_impl_MeanOf h xs ?_
  repeat' (first | with_reducible refine T.ok_ob ?_ (fun _ => ?_) | with_reducible refine T.ok_ite (fun _ => ?_) (fun _ => ?_) | with_reducible refine T.ok_leaf ?_)
  all_goals first | with_reducible rfl | with_reducible assumption | ((with_reducible refine c1 _ ?_) <;> (first | assumption | omega | with_reducible rfl | (simp [maxLen_eq]; done) | (simp [maxLen_eq]; omega))) | ((with_reducible refine c2 _ ?_) <;> (first | assumption | omega | with_reducible rfl | (simp [maxLen_eq]; done) | (simp [maxLen_eq]; omega))) | with_reducible exact c3 _ | contradiction | exact fconvOk_32_64 _ | assumption | exact rfl | (simp_all [meanOk, numM]; done) | (simp_all [T.ok, meanOk, numM]; omega)

theorem k_impl_MeansShared {P : Program} {f g1 g2 : FuncId} (h : Is_impl_MeansShared P f g1 g2) (c1 : C_impl_areWorkers P g1) (c2 : C_impl_MeanOf P g2) : C_impl_MeansShared P f := by
  intro xs w hx hy
  refine q_impl_MeansShared h xs w ⟨fun h0 => ?_, fun h0 => ⟨fun h1 => ?_, fun h1 => ⟨c1 _, fun _ => ⟨fun h2 => ?_, fun h2 => ?_⟩⟩⟩⟩
  · have : ¬ (1 ≤ xs.length) := by have := of_decide_eq_true h0; omega
    have : msOk xs w = false := by unfold msOk; simp only [this, decide_false, Bool.false_and]
    simp [T.ok, this]
  · have : ¬ (xs.length ≤ 16) := by have := of_decide_eq_true h1; omega
    have : msOk xs w = false := by unfold msOk; simp only [this, decide_false, Bool.false_and, Bool.and_false]
    simp [T.ok, this]
  · simp at h2; simp [T.ok, msOk, h2]
  · have h0 : 1 ≤ xs.length := by have := of_decide_eq_false h0; omega
    have h1 : xs.length ≤ 16 := by have := of_decide_eq_false h1; omega
    simp only [Bool.not_eq_false'] at h2
    have e : msOk xs w = msFin xs := by simp [msOk, h0, h1, h2]
    rw [e]
    have go : ∀ i, i < xs.length → meanOk (xs.getD i []) = true → Exec (VCall P) ps_impl_MeansShared (b_impl_MeansShared_L0 g1 g2) (h_impl_MeansShared_L0 xs w (tab i fun i => meanM (xs.getD i [])) i) .normal (h_impl_MeansShared_L0 xs w (tab (i + 1) fun i => meanM (xs.getD i [])) (i + 1 : Nat)) := by
      intro i hi hc
      refine q_impl_MeansShared_L0 _ _ _ _ ?_
      have a2 := c2 (xs.getD i []) (by simp [List.getD, hi]; exact hy _ (List.getElem_mem hi))
      rw [Int.toNat_natCast, hc]
      rw [hc] at a2
      simp only [if_true] at a2 ⊢
      repeat' (first | with_reducible refine T.ok_ob ?_ (fun _ => ?_) | with_reducible refine T.ok_ite (fun _ => ?_) (fun _ => ?_) | with_reducible refine T.ok_leaf ?_)
      all_goals (try simp only [decide_eq_true_eq, decide_eq_false_iff_not, Bool.not_eq_true', Bool.not_eq_false', Bool.not_eq_eq_eq_not, Bool.not_true, Bool.not_false, Int.toNat_natCast, tab_len, List.length_append, List.length_singleton, List.length_cons, List.length_nil, List.length_drop, List.length_take, getD_drop', getD_nat, reduceCtorEq] at *)
      all_goals (try simp (disch := omega) only [wrap64_id] at *)
      all_goals first | omega | (exfalso; omega) | exact True.intro | skip
      all_goals first | exact a2 | (rw [tab_succ]; rfl)
    refine ⟨fun h3 => ⟨?_, fun _ => ?_⟩, fun h3 => ⟨?_, fun _ => ?_⟩⟩
    · refine for_all (e := .exit 0) _ xs.length (fun i => h_impl_MeansShared_L0 xs w (tab i fun i => meanM (xs.getD i [])) i) h3 rfl go ?_
      refine q_impl_MeansShared_L0 _ _ _ _ ?_
      repeat' (first | with_reducible refine T.ok_ob ?_ (fun _ => ?_) | with_reducible refine T.ok_ite (fun _ => ?_) (fun _ => ?_) | with_reducible refine T.ok_leaf ?_)
      all_goals (try simp only [decide_eq_true_eq, decide_eq_false_iff_not, Bool.not_eq_true', Bool.not_eq_false', Bool.not_eq_eq_eq_not, Bool.not_true, Bool.not_false, Int.toNat_natCast, tab_len, List.length_append, List.length_singleton, List.length_cons, List.length_nil, List.length_drop, List.length_take, getD_drop', getD_nat, reduceCtorEq] at *)
      all_goals (try simp (disch := omega) only [wrap64_id] at *)
      all_goals first | omega | (exfalso; omega) | exact True.intro | skip
      all_goals rfl
    · simp [T.ok, h3]
    · refine for_one (e := .ret) _ xs.length (fun i => h_impl_MeansShared_L0 xs w (tab i fun i => meanM (xs.getD i [])) i) h3 rfl go (fun i hi hc => ?_)
      refine q_impl_MeansShared_L0 _ _ _ _ ?_
      have a2 := c2 (xs.getD i []) (by simp [List.getD, hi]; exact hy _ (List.getElem_mem hi))
      rw [Int.toNat_natCast, hc]
      rw [hc] at a2
      simp only [if_false, Bool.false_eq_true] at a2 ⊢
      repeat' (first | with_reducible refine T.ok_ob ?_ (fun _ => ?_) | with_reducible refine T.ok_ite (fun _ => ?_) (fun _ => ?_) | with_reducible refine T.ok_leaf ?_)
      all_goals (try simp only [decide_eq_true_eq, decide_eq_false_iff_not, Bool.not_eq_true', Bool.not_eq_false', Bool.not_eq_eq_eq_not, Bool.not_true, Bool.not_false, Int.toNat_natCast, tab_len, List.length_append, List.length_singleton, List.length_cons, List.length_nil, List.length_drop, List.length_take, getD_drop', getD_nat, reduceCtorEq] at *)
      all_goals (try simp (disch := omega) only [wrap64_id] at *)
      all_goals first | omega | (exfalso; omega) | exact True.intro | skip
      all_goals first | exact a2 | rfl
    · simp [T.ok, h3]
end Go.Proofs.LV
