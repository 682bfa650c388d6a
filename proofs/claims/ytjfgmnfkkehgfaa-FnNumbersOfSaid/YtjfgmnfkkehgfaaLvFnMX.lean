/- Texts that belong together. -/
import Derived.Test.YtjfgmnfkkehgfaaLvFnGX
import Derived.Test.YtjfgmnfkkehgfaaLvSqrtX
namespace Go.Proofs.LV
open Go
set_option linter.unusedVariables false
set_option linter.unusedSimpArgs false

abbrev C_math_sqrt (P : Program) (f : FuncId) : Prop := ∀ x : Nat, VCall P f [.f .f64 x] (.f .f64 (fsqrt x))
theorem k_math_sqrt {P : Program} {f : FuncId} (h : ExtIs P f Extern.MathSqrt.sqrt) : C_math_sqrt P f := fun x => sqrt_ok h x
def oc1_math_sqrt (as : List AV) : T AV := match as with | [.f _ x] => .leaf (.f .f64 (fsqrt x)) | _ => .fail

open Go.IntKind (wrap)
-- FN math_Sqrt
def ps_math_Sqrt : List Nat := [0, 2]
def b_math_Sqrt (gq0 : FuncId) : VCode :=
 (.seq
 (.region false [
 ⟨some 2, .mv, [.k (.f .f64 0)], none⟩])
 (.seq
 (.region false [
 ⟨some 3, .mv, [.t 0], none⟩,
 ⟨some 4, (.call gq0), [.t 3], none⟩,
 ⟨some 2, .mv, [.t 4], none⟩])
 .ret))

abbrev Is_math_Sqrt (P : Program) (g_f : FuncId) (gq0 : FuncId) : Prop := FnIs P g_f 5 [.t 2] (b_math_Sqrt gq0)

abbrev C_math_Sqrt (P : Program) (g_f : FuncId) : Prop := ∀ (x : Nat), VCall P g_f [.f .f64 x] (.f .f64 (fsqrt x))
def oc1_math_Sqrt (as : List AV) : T AV := match as with | [.f .f64 x] => .leaf (.f .f64 (fsqrt x)) | _ => .fail
def oc_math_Sqrt (x : Nat) (d : Nat) (as : List AV) : T AV := match d with | 4 => oc1_math_sqrt as | _ => .fail



theorem q_math_Sqrt {P : Program} {g_f : FuncId} {gq0 : FuncId} (h_ : Is_math_Sqrt P g_f gq0) (x : Nat) (ht : T.ok (fun x_ => x_ = .f .f64 (fsqrt x)) (
 T.ob ((VCall P) gq0 [AV.f .f64 x] (AV.f .f64 (fsqrt x))) (T.leaf (AV.f .f64 (fsqrt x))))) :
 VCall P g_f [.f .f64 x] (.f .f64 (fsqrt x)) := h_.call_of ps_math_Sqrt ⟨oc_math_Sqrt x, fun _ _ => none⟩ (by kernel_rfl) ht

-- END math_Sqrt

-- FN impl_RootNumber
def ps_impl_RootNumber : List Nat := [0, 2]
def b_impl_RootNumber (gq0 : FuncId) : VCode :=
 (.seq
 (.region false [
 ⟨some 2, .mv, [.k (.f .f32 0)], none⟩])
 (.seq
 (.region false [
 ⟨some 3, .mv, [.t 0], none⟩,
 ⟨some 4, (.convF .f64), [.t 3], none⟩,
 ⟨some 5, (.call gq0), [.t 4], none⟩,
 ⟨some 6, (.convF .f32), [.t 5], none⟩,
 ⟨some 2, .mv, [.t 6], none⟩])
 .ret))

abbrev Is_impl_RootNumber (P : Program) (g_f : FuncId) (gq0 : FuncId) : Prop := FnIs P g_f 7 [.t 2] (b_impl_RootNumber gq0)

abbrev C_impl_RootNumber (P : Program) (g_f : FuncId) : Prop := ∀ (x : Nat), VCall P g_f [.f .f32 x] (.f .f32 (rootM x))
def oc1_impl_RootNumber (as : List AV) : T AV := match as with | [.f .f32 x] => .leaf (.f .f32 (rootM x)) | _ => .fail
def oc_impl_RootNumber (x : Nat) (d : Nat) (as : List AV) : T AV := match d with | 5 => oc1_math_Sqrt as | _ => .fail



theorem q_impl_RootNumber {P : Program} {g_f : FuncId} {gq0 : FuncId} (h_ : Is_impl_RootNumber P g_f gq0) (x : Nat) (ht : T.ok (fun x_ => x_ = .f .f32 (rootM x)) (
 T.ob (fconvOk .f32 .f64 x = true)
 (T.ob ((VCall P) gq0 [AV.f .f64 (fconv .f32 .f64 x)] (AV.f .f64 (fsqrt (fconv .f32 .f64 x))))
 (T.ob (fconvOk .f64 .f32 (fsqrt (fconv .f32 .f64 x)) = true) (T.leaf (AV.f .f32 (fconv .f64 .f32 (fsqrt (fconv .f32 .f64 x))))))))) :
 VCall P g_f [.f .f32 x] (.f .f32 (rootM x)) := h_.call_of ps_impl_RootNumber ⟨oc_impl_RootNumber x, fun _ _ => none⟩ (by kernel_rfl) ht

-- END impl_RootNumber



def spreadM (xs : List Nat) : Nat := rootM (fdiv .f32 (squaresM xs) (fofi .f32 xs.length))
def spOk (xs : List Nat) : Bool := seriesM xs && finM (spreadM xs)


-- FN impl_SpreadOf
def ps_impl_SpreadOf : List Nat := [0, 2, 3, 6]
def b_impl_SpreadOf (gq0 gq1 gq2 gq3 : FuncId) : VCode :=
 (.seq
 (.region false [
 ⟨some 2, .mv, [.k (.f .f32 0)], none⟩,
 ⟨some 3, .mv, [.k (.b false)], none⟩])
 (.seq
 (.seq
 (.region false [
 ⟨some 4, .mv, [.t 0], none⟩,
 ⟨some 5, (.call gq0), [.t 4], none⟩,
 ⟨some 6, .not, [.t 5], none⟩])
 (.cond (.t 6)
 (.seq
 (.region false [
 ⟨some 2, .mv, [.k (.f .f32 0)], none⟩,
 ⟨some 3, .mv, [.k (.b false)], none⟩])
 .ret)
 .skip))
 (.seq
 (.region false [
 ⟨some 7, .mv, [.t 0], none⟩,
 ⟨some 8, (.call gq1), [.t 7], none⟩,
 ⟨some 9, .mv, [.t 0], none⟩,
 ⟨some 10, .len, [.t 9], none⟩,
 ⟨some 11, (.convF .f32), [.t 10], none⟩,
 ⟨some 12, (.bin .quo), [.t 8, .t 11], none⟩,
 ⟨some 13, (.call gq2), [.t 12], none⟩,
 ⟨some 14, (.call gq3), [.t 13], none⟩,
 ⟨some 15, (.extract 0), [.t 14], none⟩,
 ⟨some 16, (.extract 1), [.t 14], none⟩,
 ⟨some 2, .mv, [.t 15], none⟩,
 ⟨some 3, .mv, [.t 16], none⟩])
 .ret)))

abbrev Is_impl_SpreadOf (P : Program) (g_f : FuncId) (gq0 gq1 gq2 gq3 : FuncId) : Prop := FnIs P g_f 17 [.t 2, .t 3] (b_impl_SpreadOf gq0 gq1 gq2 gq3)

abbrev C_impl_SpreadOf (P : Program) (g_f : FuncId) : Prop := ∀ (xs : List Nat) (hx : xs.length ≤ maxLen), VCall P g_f [PS [0] .f32 xs] (.tup [.f .f32 (if spOk xs = true then spreadM xs else 0), .b (spOk xs)])
def oc1_impl_SpreadOf (as : List AV) : T AV := match as with | [.sl _ _ (.f .f32 xs)] => .leaf (.tup [.f .f32 (if spOk xs = true then spreadM xs else 0), .b (spOk xs)]) | _ => .fail
def oc_impl_SpreadOf (xs : List Nat) (d : Nat) (as : List AV) : T AV := match d with | 5 => oc1_impl_IsSeries as | 8 => oc1_impl_squares as | 13 => oc1_impl_RootNumber as | 14 => oc1_impl_ifFinite as | _ => .fail



theorem q_impl_SpreadOf {P : Program} {g_f : FuncId} {gq0 gq1 gq2 gq3 : FuncId} (h_ : Is_impl_SpreadOf P g_f gq0 gq1 gq2 gq3) (xs : List Nat) (ht : T.ok (fun x_ => x_ = .tup [.f .f32 (if spOk xs = true then spreadM xs else 0), .b (spOk xs)]) (
 T.ob ((VCall P) gq0 [AV.sl (Tag.par [0]) 0 (Cont.f .f32 xs)] (AV.b (seriesM xs)))
 (T.ite (!seriesM xs) (T.leaf (AV.tup [AV.f .f32 0, AV.b false]))
 (T.ob ((VCall P) gq1 [AV.sl (Tag.par [0]) 0 (Cont.f .f32 xs)] (AV.f .f32 (squaresM xs)))
 (T.ob True
 (T.ob True
 (T.ob
 ((VCall P) gq2 [AV.f .f32 (fdiv .f32 (squaresM xs) (fofi .f32 (↑(List.length xs) : Int)))]
 (AV.f .f32 (rootM (fdiv .f32 (squaresM xs) (fofi .f32 (↑(List.length xs) : Int))))))
 (T.ob
 ((VCall P) gq3 [AV.f .f32 (rootM (fdiv .f32 (squaresM xs) (fofi .f32 (↑(List.length xs) : Int))))]
 (AV.tup
 [AV.f .f32 (numM (rootM (fdiv .f32 (squaresM xs) (fofi .f32 (↑(List.length xs) : Int))))),
 AV.b (finM (rootM (fdiv .f32 (squaresM xs) (fofi .f32 (↑(List.length xs) : Int)))))]))
 (T.leaf
 (AV.tup
 [AV.f .f32 (numM (rootM (fdiv .f32 (squaresM xs) (fofi .f32 (↑(List.length xs) : Int))))),
 AV.b (finM (rootM (fdiv .f32 (squaresM xs) (fofi .f32 (↑(List.length xs) : Int)))))])))))))))) :
 VCall P g_f [PS [0] .f32 xs] (.tup [.f .f32 (if spOk xs = true then spreadM xs else 0), .b (spOk xs)]) := h_.call_of ps_impl_SpreadOf ⟨oc_impl_SpreadOf xs, fun _ _ => none⟩ (by kernel_rfl) ht

-- END impl_SpreadOf


def evenM (xs : List Nat) : List Nat := tab xs.length fun i => fdiv .f32 (fsub .f32 (xs.getD i 0) (meanM xs)) (spreadM xs)
def evenOk (xs : List Nat) : Bool := seriesM xs && ((finM (spreadM xs) && fgt .f32 (spreadM xs) 0) && finAllM (evenM xs))

-- FN impl_EvenSeries
def ps_impl_EvenSeries : List Nat := [0, 2, 3, 4, 5, 6, 7, 8, 10, 31, 33, 34, 35, 36]
def lv_impl_EvenSeries_L0 : List Nat := [4, 6, 8, 33, 34, 35]
def b_impl_EvenSeries_L0 (gq0 gq1 gq2 : FuncId) : VCode :=
 (.seq
 (.region false [
 ⟨some 36, (.bin .lss), [.t 35, .t 34], none⟩])
 (.seq
 (.cond (.t 36)
 .skip
 (.exit 0))
 (.seq
 (.block 1
 (.seq
 (.region false [
 ⟨some 37, .iaddr, [.t 33, .t 35], none⟩,
 ⟨some 38, .load, [.t 37], none⟩,
 ⟨some 10, .mv, [.t 38], none⟩])
 (.region false [
 ⟨some 39, .mv, [.t 8], none⟩,
 ⟨some 40, .mv, [.t 10], none⟩,
 ⟨some 41, .mv, [.t 4], none⟩,
 ⟨some 42, (.bin .sub), [.t 40, .t 41], none⟩,
 ⟨some 43, .mv, [.t 6], none⟩,
 ⟨some 44, (.bin .quo), [.t 42, .t 43], none⟩,
 ⟨some 45, (.lit true (.f .f32 [])), [.t 44], none⟩,
 ⟨some 46, .app, [.t 39, .t 45], none⟩,
 ⟨some 8, .mv, [.t 46], none⟩])))
 (.region false [
 ⟨some 47, (.bin .add), [.t 35, .k (.i .i64 1)], none⟩,
 ⟨some 35, .mv, [.t 47], none⟩]))))

def b_impl_EvenSeries (gq0 gq1 gq2 : FuncId) : VCode :=
 (.seq
 (.region false [
 ⟨some 2, (.nilsl (.f .f32 [])), [], none⟩,
 ⟨some 3, .mv, [.k (.b false)], none⟩])
 (.seq
 (.region false [
 ⟨some 12, .mv, [.t 0], none⟩,
 ⟨some 13, (.call gq0), [.t 12], none⟩,
 ⟨some 11, .mv, [.t 13], none⟩,
 ⟨some 14, (.extract 0), [.t 11], none⟩,
 ⟨some 15, (.extract 1), [.t 11], none⟩,
 ⟨some 4, .mv, [.t 14], none⟩,
 ⟨some 5, .mv, [.t 15], none⟩])
 (.seq
 (.region false [
 ⟨some 17, .mv, [.t 0], none⟩,
 ⟨some 18, (.call gq1), [.t 17], none⟩,
 ⟨some 16, .mv, [.t 18], none⟩,
 ⟨some 19, (.extract 0), [.t 16], none⟩,
 ⟨some 20, (.extract 1), [.t 16], none⟩,
 ⟨some 6, .mv, [.t 19], none⟩,
 ⟨some 7, .mv, [.t 20], none⟩])
 (.seq
 (.seq
 (.region false [
 ⟨some 21, .mv, [.t 5], none⟩,
 ⟨some 22, .not, [.t 21], none⟩,
 ⟨some 23, .mv, [.t 22], none⟩,
 ⟨some 24, .mv, [.t 7], some (23, false)⟩,
 ⟨some 25, .not, [.t 24], some (23, false)⟩,
 ⟨some 26, .pick, [.t 23, .k (.b true), .t 25], none⟩,
 ⟨some 27, .mv, [.t 26], none⟩,
 ⟨some 28, .mv, [.t 6], some (27, false)⟩,
 ⟨some 29, (.bin .gtr), [.t 28, .k (.f .f32 0)], some (27, false)⟩,
 ⟨some 30, .not, [.t 29], some (27, false)⟩,
 ⟨some 31, .pick, [.t 27, .k (.b true), .t 30], none⟩])
 (.cond (.t 31)
 (.seq
 (.region false [
 ⟨some 2, (.nilsl (.f .f32 [])), [], none⟩,
 ⟨some 3, .mv, [.k (.b false)], none⟩])
 .ret)
 .skip))
 (.seq
 (.region false [
 ⟨some 32, (.lit true (.f .f32 [])), [], none⟩,
 ⟨some 8, .mv, [.t 32], none⟩])
 (.seq
 (.seq
 (.region false [
 ⟨some 33, .mv, [.t 0], none⟩,
 ⟨some 34, .len, [.t 33], none⟩,
 ⟨some 35, .mv, [.k (.i .i64 0)], none⟩])
 (.block 0 (.loop (b_impl_EvenSeries_L0 gq0 gq1 gq2))))
 (.seq
 (.region false [
 ⟨some 48, .mv, [.t 8], none⟩,
 ⟨some 49, (.call gq2), [.t 48], none⟩,
 ⟨some 50, (.extract 0), [.t 49], none⟩,
 ⟨some 51, (.extract 1), [.t 49], none⟩,
 ⟨some 2, .mv, [.t 50], none⟩,
 ⟨some 3, .mv, [.t 51], none⟩])
 .ret)))))))

abbrev Is_impl_EvenSeries (P : Program) (g_f : FuncId) (gq0 gq1 gq2 : FuncId) : Prop := FnIs P g_f 52 [.t 2, .t 3] (b_impl_EvenSeries gq0 gq1 gq2)

abbrev C_impl_EvenSeries (P : Program) (g_f : FuncId) : Prop := ∀ (xs : List Nat) (hx : xs.length ≤ maxLen), VCall P g_f [PS [0] .f32 xs] (.tup [OS 0 .f32 (if evenOk xs = true then evenM xs else []), .b (evenOk xs)])
def oc_impl_EvenSeries (xs : List Nat) (d : Nat) (as : List AV) : T AV := match d with | 13 => oc1_impl_MeanOf as | 18 => oc1_impl_SpreadOf as | 49 => oc1_impl_ifAll as | _ => .fail
def h_impl_EvenSeries_L0 (xs : List Nat) (out : List Nat) (v35 : Int) : Env := anys 4 ++ [AV.f .f32 (if meanOk xs = true then meanM xs else 0), .any, AV.f .f32 (if spOk xs = true then spreadM xs else 0), .any, .sl (Tag.own 256) 0 (.f .f32 out)] ++ anys 24 ++ [AV.sl (Tag.par [0]) 0 (Cont.f .f32 xs), AV.i .i64 (↑(List.length xs) : Int), .i .i64 v35] ++ anys 16

theorem q_impl_EvenSeries_L0 {VC : FuncId → List AV → AV → Prop} {gq0 gq1 gq2 : FuncId} (xs : List Nat) (out : List Nat) (v35 : Int) {e_ : Ex} {σ_ : Env} (ht : T.ok (fun x_ => x_ = (e_, σ_)) (
 T.ite (decide (v35 < (↑(List.length xs) : Int)))
 (T.ob (0 ≤ v35 ∧ v35 < (↑(List.length xs) : Int))
 (T.ob True
 (T.ob (List.length out + List.length [fdiv .f32 (fsub .f32 (List.getD xs (Int.toNat v35) 0) (if meanOk xs = true then meanM xs else 0)) (if spOk xs = true then spreadM xs else 0)] ≤ 4294967296)
 (T.leaf
 (Ex.normal,
 h_impl_EvenSeries_L0 xs (out ++ [fdiv .f32 (fsub .f32 (List.getD xs (Int.toNat v35) 0) (if meanOk xs = true then meanM xs else 0)) (if spOk xs = true then spreadM xs else 0)])
 (wrap .i64 (v35 + 1)))))))
 (T.leaf (Ex.exit 0, h_impl_EvenSeries_L0 xs out v35)))) :
 Exec VC ps_impl_EvenSeries (b_impl_EvenSeries_L0 gq0 gq1 gq2) (h_impl_EvenSeries_L0 xs out v35) e_ σ_ := evL_of (lv := lv_impl_EvenSeries_L0) (rs := [2, 3]) (O := ⟨oc_impl_EvenSeries xs, fun _ _ => none⟩) (by kernel_rfl) ht

theorem q_impl_EvenSeries {P : Program} {g_f : FuncId} {gq0 gq1 gq2 : FuncId} (h_ : Is_impl_EvenSeries P g_f gq0 gq1 gq2) (xs : List Nat) (ht : T.ok (fun x_ => x_ = .tup [OS 0 .f32 (if evenOk xs = true then evenM xs else []), .b (evenOk xs)]) (
 T.ob ((VCall P) gq0 [AV.sl (Tag.par [0]) 0 (Cont.f .f32 xs)] (AV.tup [AV.f .f32 (if meanOk xs = true then meanM xs else 0), AV.b (meanOk xs)]))
 (T.ob ((VCall P) gq1 [AV.sl (Tag.par [0]) 0 (Cont.f .f32 xs)] (AV.tup [AV.f .f32 (if spOk xs = true then spreadM xs else 0), AV.b (spOk xs)]))
 (T.ite (!meanOk xs) (T.leaf (AV.tup [AV.sl (Tag.own 0) 0 (Cont.f .f32 []), AV.b false]))
 (T.ite (!spOk xs) (T.leaf (AV.tup [AV.sl (Tag.own 0) 0 (Cont.f .f32 []), AV.b false]))
 (T.ite (!fgt .f32 (if spOk xs = true then spreadM xs else 0) 0) (T.leaf (AV.tup [AV.sl (Tag.own 0) 0 (Cont.f .f32 []), AV.b false]))
 (T.ob
 (Exec (VCall P) ps_impl_EvenSeries (VCode.block 0 (VCode.loop (b_impl_EvenSeries_L0 gq0 gq1 gq2))) (h_impl_EvenSeries_L0 xs [] 0) Ex.normal
 (h_impl_EvenSeries_L0 xs (evenM xs) (↑(List.length xs) : Int)))
 (T.ob ((VCall P) gq2 [AV.sl (Tag.par [0]) 0 (Cont.f .f32 (evenM xs))] (AV.tup [AV.sl (Tag.par [0]) 0 (Cont.f .f32 (ifAllM (evenM xs))), AV.b (finAllM (evenM xs))]))
 (T.leaf (AV.tup [AV.sl (Tag.own 0) 0 (Cont.f .f32 (ifAllM (evenM xs))), AV.b (finAllM (evenM xs))])))))))))) :
 VCall P g_f [PS [0] .f32 xs] (.tup [OS 0 .f32 (if evenOk xs = true then evenM xs else []), .b (evenOk xs)]) := h_.call_of ps_impl_EvenSeries ⟨oc_impl_EvenSeries xs, fun id σ => match id with | 0 => some (lv_impl_EvenSeries_L0, .leaf (.normal, h_impl_EvenSeries_L0 xs (evenM xs) xs.length)) | _ => none⟩ (by kernel_rfl) ht

-- END impl_EvenSeries


theorem k_math_Sqrt {P : Program} {f g_math_sqrt : FuncId} (h : Is_math_Sqrt P f g_math_sqrt) (c1 : C_math_sqrt P g_math_sqrt) : C_math_Sqrt P f := by
  intro x
  refine q_math_Sqrt h x ?_
  repeat' (first | with_reducible refine T.ok_ob ?_ (fun _ => ?_) | with_reducible refine T.ok_ite (fun _ => ?_) (fun _ => ?_) | with_reducible refine T.ok_leaf ?_)
  all_goals first | with_reducible rfl | with_reducible assumption | with_reducible exact c1 _ | contradiction | exact fconvOk_32_64 _ | assumption | exact rfl | (simp_all []; done) | (simp_all [T.ok]; omega)

theorem k_impl_RootNumber {P : Program} {f g : FuncId} (h : Is_impl_RootNumber P f g) (c1 : C_math_Sqrt P g) : C_impl_RootNumber P f := by
  intro x
  exact q_impl_RootNumber h x ⟨fconvOk_32_64 _, fun _ => ⟨c1 _, fun _ => ⟨root_narrow x, fun _ => rfl⟩⟩⟩
theorem series_fin {xs : List Nat} (h : seriesM xs = true) {i : Nat} (hi : i < xs.length) : finM (xs.getD i 0) = true := by
  simp only [seriesM, Bool.and_eq_true, finAllM, List.all_eq_true] at h
  refine h.2.2 _ ?_
  rw [List.getD_eq_getElem?_getD, List.getElem?_eq_getElem hi]
  exact List.getElem_mem hi
theorem k_impl_SpreadOf {P : Program} {f g1 g2 g3 g4 : FuncId} (h : Is_impl_SpreadOf P f g1 g2 g3 g4) (c1 : C_impl_IsSeries P g1) (c2 : C_impl_squares P g2) (c3 : C_impl_RootNumber P g3) (c4 : C_impl_ifFinite P g4) : C_impl_SpreadOf P f := by
  intro xs hx
  refine q_impl_SpreadOf h xs ⟨c1 _ hx, fun _ => ⟨fun h0 => ?_, fun h0 => ?_⟩⟩
  · simp at h0; simp [T.ok, spOk, h0]
  · simp at h0
    have hl := series_len h0
    refine ⟨c2 _ hl.2, fun _ => ⟨trivial, fun _ => ⟨trivial, fun _ => ⟨c3 _, fun _ => ⟨c4 _, fun _ => ?_⟩⟩⟩⟩⟩
    simp [T.ok, spOk, h0, numM, spreadM]
/-- a spread that is finite comes of a mean that is -/
theorem mean_of_spread {xs : List Nat} (hs : seriesM xs = true) (h : finM (spreadM xs) = true) : finM (meanM xs) = true := by
  cases hm : finM (meanM xs) with
  | true => rfl
  | false =>
    exfalso
    have hl := series_len hs
    have hsq : finM (squaresM xs) = false := by
      unfold squaresM dotM
      have e : (lessOneM xs (meanM xs)).length = (xs.length - 1) + 1 := by rw [lessOne_len]; omega
      rw [e]
      simp only [accN]
      refine bad_add (bad_square ?_)
      rw [lessOne_get _ _ _ (by omega)]
      exact bad_sub (series_fin hs (by omega)) hm
    have hd : finM (fdiv .f32 (squaresM xs) (fofi .f32 xs.length)) = false := bad_div hsq (small_fin ⟨xs.length, by omega⟩)
    have := bad_root hd
    unfold spreadM at h
    rw [this] at h; cases h
theorem even_len (xs : List Nat) : (evenM xs).length = xs.length := tab_len _ _
theorem k_impl_EvenSeries {P : Program} {f g1 g2 g3 : FuncId} (h : Is_impl_EvenSeries P f g1 g2 g3) (c1 : C_impl_MeanOf P g1) (c2 : C_impl_SpreadOf P g2) (c3 : C_impl_ifAll P g3) : C_impl_EvenSeries P f := by
  intro xs hx
  refine q_impl_EvenSeries h xs ⟨c1 _ hx, fun _ => ⟨c2 _ hx, fun _ => ⟨fun h0 => ?_, fun h0 => ⟨fun h1 => ?_, fun h1 => ⟨fun h2 => ?_, fun h2 => ?_⟩⟩⟩⟩⟩
  · simp only [Bool.not_eq_true'] at h0
    have : evenOk xs = false := by
      unfold evenOk
      cases hs : seriesM xs with
      | false => rfl
      | true =>
        cases hp : finM (spreadM xs) with
        | false => rfl
        | true => have := mean_of_spread hs hp; simp [meanOk, hs, this] at h0
    simp [T.ok, this]
  · simp only [Bool.not_eq_true'] at h1
    have : evenOk xs = false := by
      unfold evenOk
      unfold spOk at h1
      revert h1
      cases seriesM xs <;> cases finM (spreadM xs) <;> simp
    simp [T.ok, this]
  · simp only [Bool.not_eq_false'] at h1
    rw [if_pos h1] at h2
    simp only [Bool.not_eq_true'] at h2
    have : evenOk xs = false := by unfold evenOk; rw [h2]; simp
    simp [T.ok, this]
  · simp only [Bool.not_eq_false'] at h0 h1
    rw [if_pos h1] at h2
    simp only [Bool.not_eq_false'] at h2
    have hs : seriesM xs = true ∧ finM (spreadM xs) = true := by simpa [spOk] using h1
    have hl := series_len hs.1
    have hev : evenOk xs = finAllM (evenM xs) := by unfold evenOk; rw [hs.1, hs.2, h2]; simp
    refine ⟨?_, fun _ => ⟨c3 _ (by rw [even_len, maxLen_eq]; omega), fun _ => ?_⟩⟩
    · refine for_up (e := .exit 0) xs.length (fun i => h_impl_EvenSeries_L0 xs (tab i fun i => fdiv .f32 (fsub .f32 (xs.getD i 0) (meanM xs)) (spreadM xs)) i) rfl (fun i hi => ?_) ?_
      · refine q_impl_EvenSeries_L0 _ _ _ ?_
        rw [if_pos h0, if_pos h1]
        repeat' (first | with_reducible refine T.ok_ob ?_ (fun _ => ?_) | with_reducible refine T.ok_ite (fun _ => ?_) (fun _ => ?_) | with_reducible refine T.ok_leaf ?_)
        all_goals (try simp only [decide_eq_true_eq, decide_eq_false_iff_not, Bool.not_eq_true', Bool.not_eq_false', Bool.not_eq_eq_eq_not, Bool.not_true, Bool.not_false, Int.toNat_natCast, tab_len, List.length_append, List.length_singleton, List.length_cons, List.length_nil, List.length_drop, List.length_take, getD_drop', getD_nat, reduceCtorEq] at *)
        all_goals (try simp (disch := omega) only [wrap64_id] at *)
        all_goals first | omega | (exfalso; omega) | trivial | contradiction | (exfalso; simp_all; done) | skip
        all_goals (rw [tab_succ]; rfl)
      · refine q_impl_EvenSeries_L0 _ _ _ ?_
        repeat' (first | with_reducible refine T.ok_ob ?_ (fun _ => ?_) | with_reducible refine T.ok_ite (fun _ => ?_) (fun _ => ?_) | with_reducible refine T.ok_leaf ?_)
        all_goals (try simp only [decide_eq_true_eq, decide_eq_false_iff_not, Bool.not_eq_true', Bool.not_eq_false', Bool.not_eq_eq_eq_not, Bool.not_true, Bool.not_false, Int.toNat_natCast, tab_len, List.length_append, List.length_singleton, List.length_cons, List.length_nil, List.length_drop, List.length_take, getD_drop', getD_nat, reduceCtorEq] at *)
        all_goals (try simp (disch := omega) only [wrap64_id] at *)
        all_goals first | omega | (exfalso; omega) | trivial | contradiction | (exfalso; simp_all; done) | skip
        all_goals rfl
    · simp [T.ok, hev, ifAllM]
end Go.Proofs.LV

namespace Go.Proofs.LV
open Go
set_option linter.unusedVariables false
set_option linter.unusedSimpArgs false

def belowM (xs : List Nat) (x : Nat) : Int := sumN xs.length fun k => if flt .f32 (xs.getD k 0) x = true then 1 else 0
def equalM (xs : List Nat) (x : Nat) : Int := sumN xs.length fun k => if feq .f32 (xs.getD k 0) x = true then 1 else 0
open Go.IntKind (wrap)
-- FN impl_around
def ps_impl_around : List Nat := [0, 1, 4, 5, 6, 7, 9, 10, 11, 12, 13, 16, 22]
def lv_impl_around_L0 : List Nat := [1, 6, 7, 10, 11, 12]
def b_impl_around_L0 : VCode :=
 (.seq
 (.region false [
 ⟨some 13, (.bin .lss), [.t 12, .t 11], none⟩])
 (.seq
 (.cond (.t 13)
 .skip
 (.exit 0))
 (.seq
 (.block 1
 (.seq
 (.region false [
 ⟨some 14, .iaddr, [.t 10, .t 12], none⟩,
 ⟨some 15, .load, [.t 14], none⟩,
 ⟨some 9, .mv, [.t 15], none⟩])
 (.block 2
 (.seq
 (.region false [
 ⟨some 17, .mv, [.t 9], none⟩,
 ⟨some 18, .mv, [.t 1], none⟩,
 ⟨some 19, (.bin .lss), [.t 17, .t 18], none⟩,
 ⟨some 16, .mv, [.t 19], none⟩])
 (.cond (.t 16)
 (.region false [
 ⟨some 20, .mv, [.t 6], none⟩,
 ⟨some 21, (.bin .add), [.t 20, .k (.i .i64 1)], none⟩,
 ⟨some 6, .mv, [.t 21], none⟩])
 (.seq
 (.region false [
 ⟨some 23, .mv, [.t 9], none⟩,
 ⟨some 24, .mv, [.t 1], none⟩,
 ⟨some 25, (.bin .eql), [.t 23, .t 24], none⟩,
 ⟨some 22, .mv, [.t 25], none⟩])
 (.cond (.t 22)
 (.region false [
 ⟨some 26, .mv, [.t 7], none⟩,
 ⟨some 27, (.bin .add), [.t 26, .k (.i .i64 1)], none⟩,
 ⟨some 7, .mv, [.t 27], none⟩])
 .skip)))))))
 (.region false [
 ⟨some 28, (.bin .add), [.t 12, .k (.i .i64 1)], none⟩,
 ⟨some 12, .mv, [.t 28], none⟩]))))

def b_impl_around : VCode :=
 (.seq
 (.region false [
 ⟨some 4, .mv, [.k (.f .f32 0)], none⟩,
 ⟨some 5, .mv, [.k (.f .f32 0)], none⟩])
 (.seq
 (.region false [
 ⟨some 6, .mv, [.k (.i .i64 0)], none⟩,
 ⟨some 7, .mv, [.k (.i .i64 0)], none⟩])
 (.seq
 (.seq
 (.region false [
 ⟨some 10, .mv, [.t 0], none⟩,
 ⟨some 11, .len, [.t 10], none⟩,
 ⟨some 12, .mv, [.k (.i .i64 0)], none⟩])
 (.block 0 (.loop b_impl_around_L0)))
 (.seq
 (.region false [
 ⟨some 29, .mv, [.t 6], none⟩,
 ⟨some 30, (.convF .f32), [.t 29], none⟩,
 ⟨some 31, .mv, [.t 7], none⟩,
 ⟨some 32, (.convF .f32), [.t 31], none⟩,
 ⟨some 4, .mv, [.t 30], none⟩,
 ⟨some 5, .mv, [.t 32], none⟩])
 .ret))))

abbrev Is_impl_around (P : Program) (g_f : FuncId) : Prop := FnIs P g_f 33 [.t 4, .t 5] (b_impl_around)

abbrev C_impl_around (P : Program) (g_f : FuncId) : Prop := ∀ (xs : List Nat) (x : Nat) (hx : xs.length ≤ 96), VCall P g_f [PS [0] .f32 xs, .f .f32 x] (.tup [.f .f32 (fofi .f32 (belowM xs x)), .f .f32 (fofi .f32 (equalM xs x))])
def oc1_impl_around (as : List AV) : T AV := match as with | [.sl _ _ (.f .f32 xs), .f .f32 x] => .leaf (.tup [.f .f32 (fofi .f32 (belowM xs x)), .f .f32 (fofi .f32 (equalM xs x))]) | _ => .fail
def h_impl_around_L0 (xs : List Nat) (x : Nat) (below : Int) (equal : Int) (v12 : Int) : Env := [.any, AV.f .f32 x] ++ anys 4 ++ [.i .i64 below, .i .i64 equal, .any, .any, AV.sl (Tag.par [0]) 0 (Cont.f .f32 xs), AV.i .i64 (↑(List.length xs) : Int), .i .i64 v12] ++ anys 20

theorem q_impl_around_L0 {VC : FuncId → List AV → AV → Prop} (xs : List Nat) (x : Nat) (below : Int) (equal : Int) (v12 : Int) {e_ : Ex} {σ_ : Env} (ht : T.ok (fun x_ => x_ = (e_, σ_)) (
 T.ite (decide (v12 < (↑(List.length xs) : Int)))
 (T.ob (0 ≤ v12 ∧ v12 < (↑(List.length xs) : Int))
 (T.ite (flt .f32 (List.getD xs (Int.toNat v12) 0) x) (T.leaf (Ex.normal, h_impl_around_L0 xs x (wrap .i64 (below + 1)) equal (wrap .i64 (v12 + 1))))
 (T.ite (feq .f32 (List.getD xs (Int.toNat v12) 0) x) (T.leaf (Ex.normal, h_impl_around_L0 xs x below (wrap .i64 (equal + 1)) (wrap .i64 (v12 + 1))))
 (T.leaf (Ex.normal, h_impl_around_L0 xs x below equal (wrap .i64 (v12 + 1)))))))
 (T.leaf (Ex.exit 0, h_impl_around_L0 xs x below equal v12)))) :
 Exec VC ps_impl_around (b_impl_around_L0) (h_impl_around_L0 xs x below equal v12) e_ σ_ := evL_of (lv := lv_impl_around_L0) (rs := [4, 5]) (O := ⟨fun _ _ => .fail, fun _ _ => none⟩) (by kernel_rfl) ht

theorem q_impl_around {P : Program} {g_f : FuncId} (h_ : Is_impl_around P g_f) (xs : List Nat) (x : Nat) (ht : T.ok (fun x_ => x_ = .tup [.f .f32 (fofi .f32 (belowM xs x)), .f .f32 (fofi .f32 (equalM xs x))]) (
 T.ob (Exec (VCall P) ps_impl_around (VCode.block 0 (VCode.loop b_impl_around_L0)) (h_impl_around_L0 xs x 0 0 0) Ex.normal (h_impl_around_L0 xs x (belowM xs x) (equalM xs x) (↑(List.length xs) : Int)))
 (T.ob True (T.ob True (T.leaf (AV.tup [AV.f .f32 (fofi .f32 (belowM xs x)), AV.f .f32 (fofi .f32 (equalM xs x))])))))) :
 VCall P g_f [PS [0] .f32 xs, .f .f32 x] (.tup [.f .f32 (fofi .f32 (belowM xs x)), .f .f32 (fofi .f32 (equalM xs x))]) := h_.call_of ps_impl_around ⟨fun _ _ => .fail, fun id σ => match id with | 0 => some (lv_impl_around_L0, .leaf (.normal, h_impl_around_L0 xs x (belowM xs x) (equalM xs x) xs.length)) | _ => none⟩ (by kernel_rfl) ht

-- END impl_around



/-! ### likenesses of two series -/
theorem sumN_one (p : Nat → Bool) (n : Nat) : 0 ≤ sumN n (fun k => if p k = true then (1 : Int) else 0) ∧ sumN n (fun k => if p k = true then (1 : Int) else 0) ≤ n := by
  induction n with
  | zero => simp [sumN]
  | succ n ih => simp only [sumN]; split <;> omega
theorem flt_feq {x y : Nat} (h : flt .f32 x y = true) : feq .f32 x y = false := by
  rw [flt_eq] at h
  rw [feq_eq]
  simp only [Bool.and_eq_true, decide_eq_true_eq] at h
  have : ¬ (srung .f32 x = srung .f32 y) := by omega
  simp [this]
theorem k_impl_around {P : Program} {f : FuncId} (h : Is_impl_around P f) : C_impl_around P f := by
  intro xs x hx
  refine q_impl_around h xs x ⟨?_, fun _ => ?_⟩
  · refine for_up (e := .exit 0) xs.length (fun i => h_impl_around_L0 xs x (sumN i fun k => if flt .f32 (xs.getD k 0) x = true then 1 else 0) (sumN i fun k => if feq .f32 (xs.getD k 0) x = true then 1 else 0) i) rfl (fun i hi => ?_) ?_
    · refine q_impl_around_L0 _ _ _ _ _ ?_
      have b1 := sumN_one (fun k => flt .f32 (xs.getD k 0) x) i
      have b2 := sumN_one (fun k => feq .f32 (xs.getD k 0) x) i
      simp only [sumN]
      generalize (sumN i fun k => if flt .f32 (xs.getD k 0) x = true then (1 : Int) else 0) = A at *
      generalize (sumN i fun k => if feq .f32 (xs.getD k 0) x = true then (1 : Int) else 0) = B at *
      rw [wrap64_id (n := A + 1) (by omega) (by omega), wrap64_id (n := B + 1) (by omega) (by omega)]
      simp only [Int.toNat_natCast]
      cases e1 : flt .f32 (xs.getD i 0) x <;> cases e2 : feq .f32 (xs.getD i 0) x
      · repeat' (first | with_reducible refine T.ok_ob ?_ (fun _ => ?_) | with_reducible refine T.ok_ite (fun _ => ?_) (fun _ => ?_) | with_reducible refine T.ok_leaf ?_)
        all_goals (try simp only [decide_eq_true_eq, decide_eq_false_iff_not, Bool.not_eq_true', Bool.not_eq_false', Bool.not_eq_eq_eq_not, Bool.not_true, Bool.not_false, Int.toNat_natCast, tab_len, List.length_append, List.length_singleton, List.length_cons, List.length_nil, List.length_drop, List.length_take, getD_drop', getD_nat, reduceCtorEq] at *)
        all_goals (try simp (disch := omega) only [wrap64_id] at *)
        all_goals first | omega | (exfalso; omega) | exact True.intro | skip
        all_goals first | (simp; done) | (simp; rfl)
      · repeat' (first | with_reducible refine T.ok_ob ?_ (fun _ => ?_) | with_reducible refine T.ok_ite (fun _ => ?_) (fun _ => ?_) | with_reducible refine T.ok_leaf ?_)
        all_goals (try simp only [decide_eq_true_eq, decide_eq_false_iff_not, Bool.not_eq_true', Bool.not_eq_false', Bool.not_eq_eq_eq_not, Bool.not_true, Bool.not_false, Int.toNat_natCast, tab_len, List.length_append, List.length_singleton, List.length_cons, List.length_nil, List.length_drop, List.length_take, getD_drop', getD_nat, reduceCtorEq] at *)
        all_goals (try simp (disch := omega) only [wrap64_id] at *)
        all_goals first | omega | (exfalso; omega) | exact True.intro | skip
        all_goals first | (simp; done) | (simp; rfl)
      · repeat' (first | with_reducible refine T.ok_ob ?_ (fun _ => ?_) | with_reducible refine T.ok_ite (fun _ => ?_) (fun _ => ?_) | with_reducible refine T.ok_leaf ?_)
        all_goals (try simp only [decide_eq_true_eq, decide_eq_false_iff_not, Bool.not_eq_true', Bool.not_eq_false', Bool.not_eq_eq_eq_not, Bool.not_true, Bool.not_false, Int.toNat_natCast, tab_len, List.length_append, List.length_singleton, List.length_cons, List.length_nil, List.length_drop, List.length_take, getD_drop', getD_nat, reduceCtorEq] at *)
        all_goals (try simp (disch := omega) only [wrap64_id] at *)
        all_goals first | omega | (exfalso; omega) | exact True.intro | skip
        all_goals first | (simp; done) | (simp; rfl)
      · rw [flt_feq e1] at e2; cases e2
    · refine q_impl_around_L0 _ _ _ _ _ ?_
      repeat' (first | with_reducible refine T.ok_ob ?_ (fun _ => ?_) | with_reducible refine T.ok_ite (fun _ => ?_) (fun _ => ?_) | with_reducible refine T.ok_leaf ?_)
      all_goals (try simp only [decide_eq_true_eq, decide_eq_false_iff_not, Bool.not_eq_true', Bool.not_eq_false', Bool.not_eq_eq_eq_not, Bool.not_true, Bool.not_false, Int.toNat_natCast, tab_len, List.length_append, List.length_singleton, List.length_cons, List.length_nil, List.length_drop, List.length_take, getD_drop', getD_nat, reduceCtorEq] at *)
      all_goals (try simp (disch := omega) only [wrap64_id] at *)
      all_goals first | omega | (exfalso; omega) | trivial | contradiction | (exfalso; simp_all; done) | skip
      all_goals rfl
  · simp [T.ok]
end Go.Proofs.LV

namespace Go.Proofs.LV
open Go
set_option linter.unusedVariables false
set_option linter.unusedSimpArgs false

-- FN slices_Clone___float32_float32_
def ps_slices_Clone___float32_float32_ : List Nat := [0, 2, 4]
def b_slices_Clone___float32_float32_ : VCode :=
 (.seq
 (.region false [
 ⟨some 2, (.nilsl (.f .f32 [])), [], none⟩])
 (.seq
 (.seq
 (.region false [
 ⟨some 3, .mv, [.t 0], none⟩,
 ⟨some 4, .isnil, [.t 3], none⟩])
 (.cond (.t 4)
 (.seq
 (.region false [
 ⟨some 2, (.nilsl (.f .f32 [])), [], none⟩])
 .ret)
 .skip))
 (.seq
 (.region false [
 ⟨some 5, (.nilsl (.f .f32 [])), [], none⟩,
 ⟨some 6, .mv, [.t 0], none⟩,
 ⟨some 7, .arr, [.t 5, .t 6], none⟩,
 ⟨some 2, .mv, [.t 7], none⟩])
 .ret)))

abbrev Is_slices_Clone___float32_float32_ (P : Program) (g_f : FuncId) : Prop := FnIs P g_f 8 [.t 2] (b_slices_Clone___float32_float32_)

abbrev C_slices_Clone___float32_float32_ (P : Program) (g_f : FuncId) : Prop := ∀ (xs : List Nat) (hn : 1 ≤ xs.length) (hx : xs.length ≤ 5000), VCall P g_f [PS [0] .f32 xs] (OS 0 .f32 xs)
def oc1_slices_Clone___float32_float32_ (as : List AV) : T AV := match as with | [.sl _ _ (.f .f32 xs)] => .leaf (OS 0 .f32 xs) | _ => .fail



theorem q_slices_Clone___float32_float32_ {P : Program} {g_f : FuncId} (h_ : Is_slices_Clone___float32_float32_ P g_f) (xs : List Nat) (ht : T.ok (fun x_ => x_ = OS 0 .f32 xs) (
 T.ob (1 ≤ List.length xs) (T.ite false (T.leaf (AV.sl (Tag.own 0) 0 (Cont.f .f32 []))) (T.ob (List.length xs ≤ 4294967296) (T.leaf (AV.sl (Tag.own 0) 0 (Cont.f .f32 xs))))))) :
 VCall P g_f [PS [0] .f32 xs] (OS 0 .f32 xs) := h_.call_of ps_slices_Clone___float32_float32_ ⟨fun _ _ => .fail, fun _ _ => none⟩ (by kernel_rfl) ht

-- END slices_Clone___float32_float32_

theorem k_slices_Clone___float32_float32_ {P : Program} {f : FuncId} (h : Is_slices_Clone___float32_float32_ P f) : C_slices_Clone___float32_float32_ P f := by
  intro xs hn hx
  refine q_slices_Clone___float32_float32_ h xs ?_
  repeat' (first | with_reducible refine T.ok_ob ?_ (fun _ => ?_) | with_reducible refine T.ok_ite (fun _ => ?_) (fun _ => ?_) | with_reducible refine T.ok_leaf ?_)
  all_goals first | with_reducible rfl | with_reducible assumption | contradiction | exact fconvOk_32_64 _ | assumption | exact rfl | (simp_all []; done) | (simp_all [T.ok]; omega)

/-! ### what is left of a likeness -/
end Go.Proofs.LV
