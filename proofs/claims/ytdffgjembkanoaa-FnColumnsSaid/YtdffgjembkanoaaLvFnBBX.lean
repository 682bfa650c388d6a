/- Texts that belong together. -/
import Derived.Test.YtdffgjembkanoaaLvFnAA
import Derived.Test.YtdffgjembkanoaaLvAbsX
import Derived.Test.YtdffgjembkanoaaLvFnCX
namespace Go.Proofs.LV
open Go
set_option linter.unusedVariables false
set_option linter.unusedSimpArgs false

/-- a phase -/
def wvM (g at0 : Int) (p : Nat) : Nat × Nat := phM (fdiv .f64 (fofi .f64 (g * at0)) (fconv .f32 .f64 p))
def hmL (p : Nat) (at0 : Int) : Nat → List Nat
  | 0 => [1065353216]
  | n + 1 => hmL p at0 n ++ [(wvM ((n + 1 : Nat) : Int) at0 p).1, (wvM ((n + 1 : Nat) : Int) at0 p).2]
def haV (ts : List Nat) (p : Nat) (at0 : Int) : Nat := dotM ts (hmL p at0 (ts.length / 2))
def haOk0 (ts : List Nat) (p : Nat) (at0 : Int) : Bool := decide (ts.length % 2 = 1) && (decide (ts.length ≤ 5) && (finAllM ts && ((finM p && fgt .f32 p 0) && inM at0 (-1000) 1000)))
def haOk (ts : List Nat) (p : Nat) (at0 : Int) : Bool := haOk0 ts p at0 && finM (haV ts p at0)

open Go.IntKind (wrap)
-- FN impl_harmonics
def ps_impl_harmonics : List Nat := [0, 1, 2, 6, 7, 8, 9, 13]
def lv_impl_harmonics_L0 : List Nat := [0, 1, 2, 7, 8]
def b_impl_harmonics_L0 (gq0 : FuncId) : VCode :=
 (.seq
 (.seq
 (.region false [
 ⟨some 11, .mv, [.t 8], none⟩,
 ⟨some 12, .mv, [.t 1], none⟩,
 ⟨some 13, (.bin .leq), [.t 11, .t 12], none⟩])
 (.cond (.t 13)
 .skip
 (.exit 0)))
 (.seq
 (.block 1
 (.seq
 (.region false [
 ⟨some 16, .mv, [.t 8], none⟩,
 ⟨some 17, .mv, [.t 2], none⟩,
 ⟨some 18, (.bin .mul), [.t 16, .t 17], none⟩,
 ⟨some 19, (.convF .f64), [.t 18], none⟩,
 ⟨some 20, .mv, [.t 0], none⟩,
 ⟨some 21, (.convF .f64), [.t 20], none⟩,
 ⟨some 22, (.bin .quo), [.t 19, .t 21], none⟩,
 ⟨some 23, (.call gq0), [.t 22], none⟩,
 ⟨some 9, .mv, [.t 23], none⟩])
 (.region false [
 ⟨some 24, .mv, [.t 7], none⟩,
 ⟨some 25, .mv, [.t 9], none⟩,
 ⟨some 26, .re, [.t 25], none⟩,
 ⟨some 27, .mv, [.t 9], none⟩,
 ⟨some 28, .im, [.t 27], none⟩,
 ⟨some 29, (.lit true (.f .f32 [])), [.t 26, .t 28], none⟩,
 ⟨some 30, .app, [.t 24, .t 29], none⟩,
 ⟨some 7, .mv, [.t 30], none⟩])))
 (.region false [
 ⟨some 14, .mv, [.t 8], none⟩,
 ⟨some 15, (.bin .add), [.t 14, .k (.i .i64 1)], none⟩,
 ⟨some 8, .mv, [.t 15], none⟩])))

def b_impl_harmonics (gq0 : FuncId) : VCode :=
 (.seq
 (.region false [
 ⟨some 6, (.nilsl (.f .f32 [])), [], none⟩])
 (.seq
 (.region false [
 ⟨some 10, (.lit true (.f .f32 [])), [.k (.f .f32 1065353216)], none⟩,
 ⟨some 7, .mv, [.t 10], none⟩])
 (.seq
 (.seq
 (.region false [
 ⟨some 8, .mv, [.k (.i .i64 1)], none⟩])
 (.block 0 (.loop (b_impl_harmonics_L0 gq0))))
 (.seq
 (.region false [
 ⟨some 31, .mv, [.t 7], none⟩,
 ⟨some 6, .mv, [.t 31], none⟩])
 .ret))))

abbrev Is_impl_harmonics (P : Program) (g_f : FuncId) (gq0 : FuncId) : Prop := FnIs P g_f 32 [.t 6] (b_impl_harmonics gq0)

abbrev C_impl_harmonics (P : Program) (g_f : FuncId) : Prop := ∀ (p : Nat) (n : Int) (at0 : Int) (hn : 0 ≤ n ∧ n ≤ 4) (ha : -1000 ≤ at0 ∧ at0 ≤ 1000), VCall P g_f [.f .f32 p, .i .i64 n, .i .i64 at0] (OS 0 .f32 (hmL p at0 n.toNat))
def oc1_impl_harmonics (as : List AV) : T AV := match as with | [.f .f32 p, .i .i64 n, .i .i64 at0] => .leaf (OS 0 .f32 (hmL p at0 n.toNat)) | _ => .fail
def oc_impl_harmonics (p : Nat) (n : Int) (at0 : Int) (d : Nat) (as : List AV) : T AV := match d with | 23 => oc1_impl_PhasorOf as | _ => .fail
def h_impl_harmonics_L0 (p : Nat) (n : Int) (at0 : Int) (out : List Nat) (h : Int) : Env := [AV.f .f32 p, AV.i .i64 n, AV.i .i64 at0] ++ anys 4 ++ [.sl (Tag.own 80) 0 (.f .f32 out), .i .i64 h] ++ anys 23

theorem q_impl_harmonics_L0 {VC : FuncId → List AV → AV → Prop} {gq0 : FuncId} (p : Nat) (n : Int) (at0 : Int) (out : List Nat) (h : Int) {e_ : Ex} {σ_ : Env} (ht : T.ok (fun x_ => x_ = (e_, σ_)) (
 T.ite (decide (h ≤ n))
 (T.ob True
 (T.ob (fconvOk .f32 .f64 p = true)
 (T.ob True
 (T.ob
 (VC gq0 [AV.f .f64 (fdiv .f64 (fofi .f64 (wrap .i64 (h * at0))) (fconv .f32 .f64 p))]
 (AV.c .f32 (Prod.fst (phM (fdiv .f64 (fofi .f64 (wrap .i64 (h * at0))) (fconv .f32 .f64 p))))
 (Prod.snd (phM (fdiv .f64 (fofi .f64 (wrap .i64 (h * at0))) (fconv .f32 .f64 p))))))
 (T.ob
 (List.length out +
 List.length
 [Prod.fst (phM (fdiv .f64 (fofi .f64 (wrap .i64 (h * at0))) (fconv .f32 .f64 p))),
 Prod.snd (phM (fdiv .f64 (fofi .f64 (wrap .i64 (h * at0))) (fconv .f32 .f64 p)))] ≤
 4294967296)
 (T.leaf
 (Ex.normal,
 h_impl_harmonics_L0 p n at0
 (out ++
 [Prod.fst (phM (fdiv .f64 (fofi .f64 (wrap .i64 (h * at0))) (fconv .f32 .f64 p))),
 Prod.snd (phM (fdiv .f64 (fofi .f64 (wrap .i64 (h * at0))) (fconv .f32 .f64 p)))])
 (wrap .i64 (h + 1)))))))))
 (T.leaf (Ex.exit 0, h_impl_harmonics_L0 p n at0 out h)))) :
 Exec VC ps_impl_harmonics (b_impl_harmonics_L0 gq0) (h_impl_harmonics_L0 p n at0 out h) e_ σ_ := evL_of (lv := lv_impl_harmonics_L0) (rs := [6]) (O := ⟨oc_impl_harmonics p n at0, fun _ _ => none⟩) (by kernel_rfl) ht

theorem q_impl_harmonics {P : Program} {g_f : FuncId} {gq0 : FuncId} (h_ : Is_impl_harmonics P g_f gq0) (p : Nat) (n : Int) (at0 : Int) (ht : T.ok (fun x_ => x_ = OS 0 .f32 (hmL p at0 n.toNat)) (
 T.ob (Exec (VCall P) ps_impl_harmonics (VCode.block 0 (VCode.loop (b_impl_harmonics_L0 gq0))) (h_impl_harmonics_L0 p n at0 [1065353216] 1) Ex.normal (h_impl_harmonics_L0 p n at0 (hmL p at0 (Int.toNat n)) (n + 1)))
 (T.leaf (AV.sl (Tag.own 0) 0 (Cont.f .f32 (hmL p at0 (Int.toNat n))))))) :
 VCall P g_f [.f .f32 p, .i .i64 n, .i .i64 at0] (OS 0 .f32 (hmL p at0 n.toNat)) := h_.call_of ps_impl_harmonics ⟨oc_impl_harmonics p n at0, fun id σ => match id with | 0 => some (lv_impl_harmonics_L0, .leaf (.normal, h_impl_harmonics_L0 p n at0 (hmL p at0 n.toNat) (n + 1))) | _ => none⟩ (by kernel_rfl) ht

-- END impl_harmonics
-- FN impl_HarmonicAt
def ps_impl_HarmonicAt : List Nat := [0, 1, 2, 6, 7, 8, 33]
def b_impl_HarmonicAt (gq0 gq1 gq2 gq3 gq4 gq5 : FuncId) : VCode :=
 (.seq
 (.region false [
 ⟨some 6, .mv, [.k (.f .f32 0)], none⟩,
 ⟨some 7, .mv, [.k (.b false)], none⟩])
 (.seq
 (.region false [
 ⟨some 9, .mv, [.t 0], none⟩,
 ⟨some 10, .len, [.t 9], none⟩,
 ⟨some 8, .mv, [.t 10], none⟩])
 (.seq
 (.seq
 (.region false [
 ⟨some 11, .mv, [.t 8], none⟩,
 ⟨some 12, (.bin .rem), [.t 11, .k (.i .i64 2)], none⟩,
 ⟨some 13, (.bin .eql), [.t 12, .k (.i .i64 0)], none⟩,
 ⟨some 14, .mv, [.t 13], none⟩,
 ⟨some 15, .mv, [.t 8], some (14, false)⟩,
 ⟨some 16, (.bin .gtr), [.t 15, .k (.i .i64 5)], some (14, false)⟩,
 ⟨some 17, .pick, [.t 14, .k (.b true), .t 16], none⟩,
 ⟨some 18, .mv, [.t 17], none⟩,
 ⟨some 19, .mv, [.t 0], some (18, false)⟩,
 ⟨some 20, (.call gq0), [.t 19], some (18, false)⟩,
 ⟨some 21, .not, [.t 20], some (18, false)⟩,
 ⟨some 22, .pick, [.t 18, .k (.b true), .t 21], none⟩,
 ⟨some 23, .mv, [.t 22], none⟩,
 ⟨some 24, .mv, [.t 1], some (23, false)⟩,
 ⟨some 25, (.lit true (.f .f32 [])), [.t 24], some (23, false)⟩,
 ⟨some 26, (.call gq1), [.t 25], some (23, false)⟩,
 ⟨some 27, .not, [.t 26], some (23, false)⟩,
 ⟨some 28, .pick, [.t 23, .k (.b true), .t 27], none⟩,
 ⟨some 29, .mv, [.t 28], none⟩,
 ⟨some 30, .mv, [.t 2], some (29, false)⟩,
 ⟨some 31, (.call gq2), [.t 30, .k (.i .i64 (-1000)), .k (.i .i64 1000)], some (29, false)⟩,
 ⟨some 32, .not, [.t 31], some (29, false)⟩,
 ⟨some 33, .pick, [.t 29, .k (.b true), .t 32], none⟩])
 (.cond (.t 33)
 (.seq
 (.region false [
 ⟨some 6, .mv, [.k (.f .f32 0)], none⟩,
 ⟨some 7, .mv, [.k (.b false)], none⟩])
 .ret)
 .skip))
 (.seq
 (.region false [
 ⟨some 34, .mv, [.t 0], none⟩,
 ⟨some 35, .mv, [.t 1], none⟩,
 ⟨some 36, .mv, [.t 8], none⟩,
 ⟨some 37, (.bin .quo), [.t 36, .k (.i .i64 2)], none⟩,
 ⟨some 38, .mv, [.t 2], none⟩,
 ⟨some 39, (.call gq3), [.t 35, .t 37, .t 38], none⟩,
 ⟨some 40, (.call gq4), [.t 34, .t 39], none⟩,
 ⟨some 41, (.call gq5), [.t 40], none⟩,
 ⟨some 42, (.extract 0), [.t 41], none⟩,
 ⟨some 43, (.extract 1), [.t 41], none⟩,
 ⟨some 6, .mv, [.t 42], none⟩,
 ⟨some 7, .mv, [.t 43], none⟩])
 .ret))))

abbrev Is_impl_HarmonicAt (P : Program) (g_f : FuncId) (gq0 gq1 gq2 gq3 gq4 gq5 : FuncId) : Prop := FnIs P g_f 44 [.t 6, .t 7] (b_impl_HarmonicAt gq0 gq1 gq2 gq3 gq4 gq5)

abbrev C_impl_HarmonicAt (P : Program) (g_f : FuncId) : Prop := ∀ (ts : List Nat) (p : Nat) (at0 : Int) (hx : ts.length ≤ maxLen), VCall P g_f [PS [0] .f32 ts, .f .f32 p, .i .i64 at0] (.tup [.f .f32 (if haOk ts p at0 = true then haV ts p at0 else 0), .b (haOk ts p at0)])
def oc_impl_HarmonicAt (ts : List Nat) (p : Nat) (at0 : Int) (d : Nat) (as : List AV) : T AV := match d with | 20 => oc1_impl_areFinite as | 26 => oc1_impl_areMore as | 31 => oc1_impl_within as | 39 => oc1_impl_harmonics as | 40 => oc1_impl_dot as | 41 => oc1_impl_ifFinite as | _ => .fail



theorem q_impl_HarmonicAt {P : Program} {g_f : FuncId} {gq0 gq1 gq2 gq3 gq4 gq5 : FuncId} (h_ : Is_impl_HarmonicAt P g_f gq0 gq1 gq2 gq3 gq4 gq5) (ts : List Nat) (p : Nat) (at0 : Int) (ht : T.ok (fun x_ => x_ = .tup [.f .f32 (if haOk ts p at0 = true then haV ts p at0 else 0), .b (haOk ts p at0)]) (
 T.ob ((2 : Int) ≠ 0)
 (T.ite (Int.tmod (↑(List.length ts) : Int) 2 == 0) (T.leaf (AV.tup [AV.f .f32 0, AV.b false]))
 (T.ite (decide ((↑(List.length ts) : Int) > 5)) (T.leaf (AV.tup [AV.f .f32 0, AV.b false]))
 (T.ob ((VCall P) gq0 [AV.sl (Tag.par [0]) 0 (Cont.f .f32 ts)] (AV.b (finAllM ts)))
 (T.ite (!finAllM ts) (T.leaf (AV.tup [AV.f .f32 0, AV.b false]))
 (T.ob ((VCall P) gq1 [AV.sl (Tag.par [0]) 0 (Cont.f .f32 [p])] (AV.b (moreM [p])))
 (T.ite (!moreM [p]) (T.leaf (AV.tup [AV.f .f32 0, AV.b false]))
 (T.ob ((VCall P) gq2 [AV.i .i64 at0, AV.i .i64 (-1000), AV.i .i64 1000] (AV.b (inM at0 (-1000) 1000)))
 (T.ite (!inM at0 (-1000) 1000) (T.leaf (AV.tup [AV.f .f32 0, AV.b false]))
 (T.ob ((2 : Int) ≠ 0)
 (T.ob
 ((VCall P) gq3 [AV.f .f32 p, AV.i .i64 (wrap .i64 (Int.tdiv (↑(List.length ts) : Int) 2)), AV.i .i64 at0]
 (AV.sl (Tag.own 0) 0 (Cont.f .f32 (hmL p at0 (Int.toNat (wrap .i64 (Int.tdiv (↑(List.length ts) : Int) 2)))))))
 (T.ob
 ((VCall P) gq4
 [AV.sl (Tag.par [0]) 0 (Cont.f .f32 ts), AV.sl (Tag.par [1]) 0 (Cont.f .f32 (hmL p at0 (Int.toNat (wrap .i64 (Int.tdiv (↑(List.length ts) : Int) 2)))))]
 (AV.f .f32 (dotM ts (hmL p at0 (Int.toNat (wrap .i64 (Int.tdiv (↑(List.length ts) : Int) 2)))))))
 (T.ob
 ((VCall P) gq5 [AV.f .f32 (dotM ts (hmL p at0 (Int.toNat (wrap .i64 (Int.tdiv (↑(List.length ts) : Int) 2)))))]
 (AV.tup
 [AV.f .f32 (numM (dotM ts (hmL p at0 (Int.toNat (wrap .i64 (Int.tdiv (↑(List.length ts) : Int) 2)))))),
 AV.b (finM (dotM ts (hmL p at0 (Int.toNat (wrap .i64 (Int.tdiv (↑(List.length ts) : Int) 2))))))]))
 (T.leaf
 (AV.tup
 [AV.f .f32 (numM (dotM ts (hmL p at0 (Int.toNat (wrap .i64 (Int.tdiv (↑(List.length ts) : Int) 2)))))),
 AV.b (finM (dotM ts (hmL p at0 (Int.toNat (wrap .i64 (Int.tdiv (↑(List.length ts) : Int) 2))))))])))))))))))))))) :
 VCall P g_f [PS [0] .f32 ts, .f .f32 p, .i .i64 at0] (.tup [.f .f32 (if haOk ts p at0 = true then haV ts p at0 else 0), .b (haOk ts p at0)]) := h_.call_of ps_impl_HarmonicAt ⟨oc_impl_HarmonicAt ts p at0, fun _ _ => none⟩ (by kernel_rfl) ht

-- END impl_HarmonicAt

/-! ### tapers -/
theorem hm_len (p : Nat) (at0 : Int) : ∀ n, (hmL p at0 n).length = 2 * n + 1
  | 0 => rfl
  | n + 1 => by show (hmL p at0 n ++ [_, _]).length = _; rw [List.length_append, hm_len p at0 n]; simp; omega
theorem mul_in {g at0 : Int} (h1 : 0 ≤ g) (h2 : g ≤ 100) (h3 : -1000 ≤ at0) (h4 : at0 ≤ 1000) : -100000 ≤ g * at0 ∧ g * at0 ≤ 100000 := by
  have a := Int.mul_le_mul_of_nonneg_left h4 h1
  have b := Int.mul_le_mul_of_nonneg_left h3 h1
  omega
theorem k_impl_harmonics {P : Program} {f g1 : FuncId} (h : Is_impl_harmonics P f g1) (c1 : C_impl_PhasorOf P g1) : C_impl_harmonics P f := by
  intro p n at0 hn ha
  refine q_impl_harmonics h p n at0 ?_
  repeat' (first | with_reducible refine T.ok_ob ?_ (fun _ => ?_) | with_reducible refine T.ok_ite (fun _ => ?_) (fun _ => ?_) | with_reducible refine T.ok_leaf ?_)
  all_goals first | rfl | skip
  obtain ⟨m, rfl⟩ : ∃ m : Nat, n = m := ⟨n.toNat, by omega⟩
  rw [Int.toNat_natCast]
  refine for_up (e := .exit 0) m (fun i => h_impl_harmonics_L0 p m at0 (hmL p at0 i) ((i + 1 : Nat) : Int)) rfl (fun i hi => ?_) ?_
  · refine q_impl_harmonics_L0 _ _ _ _ _ ?_
    have hm := mul_in (g := ((i + 1 : Nat) : Int)) (at0 := at0) (by omega) (by omega) ha.1 ha.2
    have hl := hm_len p at0 i
    have d1 := c1 (fdiv .f64 (fofi .f64 (((i + 1 : Nat) : Int) * at0)) (fconv .f32 .f64 p))
    rw [wrap64_id (n := ((i + 1 : Nat) : Int) * at0) (by omega) (by omega)]
    rw [show phM (fdiv .f64 (fofi .f64 (((i + 1 : Nat) : Int) * at0)) (fconv .f32 .f64 p)) = wvM ((i + 1 : Nat) : Int) at0 p from rfl] at *
    repeat' (first | with_reducible refine T.ok_ob ?_ (fun _ => ?_) | with_reducible refine T.ok_ite (fun _ => ?_) (fun _ => ?_) | with_reducible refine T.ok_leaf ?_)
    all_goals (try simp only [decide_eq_true_eq, decide_eq_false_iff_not, Bool.not_eq_true', Bool.not_eq_false', Bool.not_eq_eq_eq_not, Bool.not_true, Bool.not_false, Int.toNat_natCast, tab_len, List.length_append, List.length_singleton, List.length_cons, List.length_nil, List.length_drop, List.length_take, getD_drop', getD_nat, reduceCtorEq] at *)
    all_goals (try simp (disch := omega) only [wrap64_id] at *)
    all_goals first | omega | (exfalso; omega) | exact True.intro | skip
    all_goals first | exact fconvOk_32_64 _ | exact d1 | rfl
  · refine q_impl_harmonics_L0 _ _ _ _ _ ?_
    repeat' (first | with_reducible refine T.ok_ob ?_ (fun _ => ?_) | with_reducible refine T.ok_ite (fun _ => ?_) (fun _ => ?_) | with_reducible refine T.ok_leaf ?_)
    all_goals (try simp only [decide_eq_true_eq, decide_eq_false_iff_not, Bool.not_eq_true', Bool.not_eq_false', Bool.not_eq_eq_eq_not, Bool.not_true, Bool.not_false, Int.toNat_natCast, tab_len, List.length_append, List.length_singleton, List.length_cons, List.length_nil, List.length_drop, List.length_take, getD_drop', getD_nat, reduceCtorEq] at *)
    all_goals (try simp (disch := omega) only [wrap64_id] at *)
    all_goals first | omega | (exfalso; omega) | exact True.intro | skip
    all_goals first | rfl | (simp; done)
theorem tmod_zero (n : Nat) : (Int.tmod (n : Int) 2 == 0) = !(decide (n % 2 = 1)) := by
  rw [Int.tmod_eq_emod_of_nonneg (by omega)]
  by_cases h : n % 2 = 1
  · rw [decide_eq_true h, show ((n : Int) % 2) = 1 by omega]; rfl
  · rw [decide_eq_false h, show ((n : Int) % 2) = 0 by omega]; rfl
theorem k_impl_HarmonicAt {P : Program} {f g1 g2 g3 g4 g5 g6 : FuncId} (h : Is_impl_HarmonicAt P f g1 g2 g3 g4 g5 g6) (c1 : C_impl_areFinite P g1) (c2 : C_impl_areMore P g2) (c3 : C_impl_within P g3) (c4 : C_impl_harmonics P g4) (c5 : C_impl_dot P g5) (c6 : C_impl_ifFinite P g6) : C_impl_HarmonicAt P f := by
  intro ts p at0 hx
  refine q_impl_HarmonicAt h ts p at0 ?_
  have c1 := c1 ts hx
  have c2 := c2 [p] (by rw [maxLen_eq]; simp)
  have c3 := c3 at0 (-1000) 1000
  have em : moreM [p] = (finM p && fgt .f32 p 0) := by simp [moreM]
  rw [tmod_zero]
  rw [em] at c2 ⊢
  cases ho : decide (ts.length % 2 = 1)
  · have e : haOk ts p at0 = false := by unfold haOk haOk0; rw [ho]; rfl
    rw [e]
    repeat' (first | with_reducible refine T.ok_ob ?_ (fun _ => ?_) | with_reducible refine T.ok_ite (fun _ => ?_) (fun _ => ?_) | with_reducible refine T.ok_leaf ?_)
    all_goals first | omega | contradiction | rfl
  by_cases h5 : ts.length ≤ 5
  rotate_left
  · have e : haOk ts p at0 = false := by unfold haOk haOk0; rw [ho, decide_eq_false h5]; rfl
    rw [e, decide_eq_true (show (ts.length : Int) > 5 by omega)]
    repeat' (first | with_reducible refine T.ok_ob ?_ (fun _ => ?_) | with_reducible refine T.ok_ite (fun _ => ?_) (fun _ => ?_) | with_reducible refine T.ok_leaf ?_)
    all_goals first | omega | contradiction | rfl
  rw [decide_eq_false (show ¬ (ts.length : Int) > 5 by omega)]
  cases hf : finAllM ts
  · have e : haOk ts p at0 = false := by unfold haOk haOk0; rw [ho, decide_eq_true h5, hf]; rfl
    rw [e]
    repeat' (first | with_reducible refine T.ok_ob ?_ (fun _ => ?_) | with_reducible refine T.ok_ite (fun _ => ?_) (fun _ => ?_) | with_reducible refine T.ok_leaf ?_)
    all_goals first | omega | contradiction | exact hf ▸ c1 | rfl
  cases hp : (finM p && fgt .f32 p 0)
  · have e : haOk ts p at0 = false := by unfold haOk haOk0; rw [ho, decide_eq_true h5, hf, hp]; rfl
    rw [e]
    repeat' (first | with_reducible refine T.ok_ob ?_ (fun _ => ?_) | with_reducible refine T.ok_ite (fun _ => ?_) (fun _ => ?_) | with_reducible refine T.ok_leaf ?_)
    all_goals first | omega | contradiction | exact hf ▸ c1 | exact hp ▸ c2 | rfl
  cases hi : inM at0 (-1000) 1000
  · have e : haOk ts p at0 = false := by unfold haOk haOk0; rw [ho, decide_eq_true h5, hf, hp, hi]; rfl
    rw [e]
    repeat' (first | with_reducible refine T.ok_ob ?_ (fun _ => ?_) | with_reducible refine T.ok_ite (fun _ => ?_) (fun _ => ?_) | with_reducible refine T.ok_leaf ?_)
    all_goals first | omega | contradiction | exact hf ▸ c1 | exact hp ▸ c2 | exact hi ▸ c3 | rfl
  have ho := of_decide_eq_true ho
  have hi2 : -1000 ≤ at0 ∧ at0 ≤ 1000 := by simpa [inM] using hi
  have e : haOk ts p at0 = finM (haV ts p at0) := by unfold haOk haOk0; rw [decide_eq_true ho, decide_eq_true h5, hf, hp, hi]; rfl
  have ew : IntKind.wrap .i64 (Int.tdiv (ts.length : Int) 2) = ((ts.length / 2 : Nat) : Int) := by rw [Int.tdiv_eq_ediv_of_nonneg (by omega), wrap64_id (by omega) (by omega)]; omega
  have c4 := c4 p ((ts.length / 2 : Nat) : Int) at0 (by omega) hi2
  have c5 := c5 ts (hmL p at0 (ts.length / 2)) (by rw [hm_len]; omega) hx
  rw [ew, e]
  simp only [Int.toNat_natCast] at *
  rw [show dotM ts (hmL p at0 (ts.length / 2)) = haV ts p at0 from rfl] at *
  repeat' (first | with_reducible refine T.ok_ob ?_ (fun _ => ?_) | with_reducible refine T.ok_ite (fun _ => ?_) (fun _ => ?_) | with_reducible refine T.ok_leaf ?_)
  all_goals first | omega | contradiction | exact hf ▸ c1 | exact hp ▸ c2 | exact hi ▸ c3 | exact c4 | exact c5 | exact c6 _ | rfl
end Go.Proofs.LV

namespace Go.Proofs.LV
open Go
set_option linter.unusedVariables false
set_option linter.unusedSimpArgs false

def one (b : Bool) : Int := if b = true then 1 else 0
end Go.Proofs.LV

namespace Go.Proofs.LV
open Go
set_option linter.unusedVariables false
set_option linter.unusedSimpArgs false

abbrev PU (p : List Nat) (xs : List Int) : AV := .sl (.par p) 0 (.i .u8 xs)
/-- bytes -/
def Byt (xs : List Int) : Prop := ∀ i, 0 ≤ xs.getD i 0 ∧ xs.getD i 0 ≤ 255


end Go.Proofs.LV
