/- What is left of likenesses: both ways reckon the same. -/
import Derived.Test.YtdffgjembkanoaaLvFnO
import Derived.Test.YtdffgjembkanoaaLvFnLX
namespace Go.Proofs.LV
open Go
set_option linter.unusedVariables false
set_option linter.unusedSimpArgs false

theorem plQ_len (r : List Nat) : ∀ k, (plQ r k).length = k
  | 0 => rfl
  | k + 1 => by simp [plQ, tab_len]
theorem plM_len (r : List Nat) (k : Nat) : (plM r k).length = k := tab_len _ _
theorem plM_next (r : List Nat) (k : Nat) : plM r (k + 1) = plM r k ++ [plX r (plQ r k) (k + 1)] := tab_succ _ _
theorem plQ_next (r : List Nat) (k : Nat) : plQ r (k + 1) = (tab k fun j => fsub .f32 ((plQ r k).getD j 0) (fmul .f32 (plX r (plQ r k) (k + 1)) ((plQ r k).getD (k - 1 - j) 0))) ++ [plX r (plQ r k) (k + 1)] := rfl
def plC (r : List Nat) (k : Nat) : Bool := !feq .f32 (plBot r (plQ r k) (k + 1)) 0
theorem pl_bounds {a : List Nat} {most : Int} (h : likesOk a most = true) : 0 ≤ most ∧ most ≤ 16 := by
  simp [likesOk, inM] at h
  omega
section
variable {P : Program}
theorem k_spec_PartLikes {f g1 g2 : FuncId} (h : Is_spec_PartLikes P f g1 g2) (c1 : C_spec_SelfLikes P g1) (c2 : C_spec_l03Given P g2) : C_spec_PartLikes P f := by
  intro a most hx
  refine q_spec_PartLikes h a most ?_
  have a1 := c1 a most hx
  cases hk : likesOk a most
  · have ho : plOk a most = false := by unfold plOk; rw [hk, Bool.false_and]
    rw [hk] at a1
    rw [ho]
    repeat' (first | with_reducible refine T.ok_ob ?_ (fun _ => ?_) | with_reducible refine T.ok_ite (fun _ => ?_) (fun _ => ?_) | with_reducible refine T.ok_leaf ?_)
    all_goals first | exact a1 | contradiction | rfl
  have hb := pl_bounds hk
  obtain ⟨m, rfl⟩ : ∃ m : Nat, most = m := ⟨most.toNat, by omega⟩
  have hout : likesOut a m = likesM a m := by unfold likesOut; rw [hk]; rfl
  rw [hk, hout] at a1
  rw [hout]
  simp only [Int.toNat_natCast]
  have hr := likes_len a m
  have ho : plOk a m = (plFin (likesM a m) m && finAllM (plM (likesM a m) m)) := by unfold plOk; rw [hk]; rfl
  rw [ho]
  generalize likesM a m = r at *
  let st : Nat → Env := fun i => h_spec_PartLikes_L0 a m r (plQ r i) (plM r i) (i + 1 : Nat)
  have in2 : ∀ i, i < m → Exec (VCall P) ps_spec_PartLikes (.block 2 (.loop (b_spec_PartLikes_L2 g1 g2))) (h_spec_PartLikes_L2 a m r (plQ r i) (plM r i) (i + 1 : Nat) 0 0 1) .normal
      (h_spec_PartLikes_L2 a m r (plQ r i) (plM r i) (i + 1 : Nat) (plDown r (plQ r i) (i + 1)) (plUp r (plQ r i) (i + 1)) (i + 1 : Nat)) := by
    intro i hi
    have ql := plQ_len r i
    refine for_up (e := .exit 2) i (fun j => h_spec_PartLikes_L2 a m r (plQ r i) (plM r i) (i + 1 : Nat) (accN (fun j s => fadd .f32 s (fmul .f32 ((plQ r i).getD j 0) (r.getD (j + 1) 0))) j 0) (accN (fun j s => fadd .f32 s (fmul .f32 ((plQ r i).getD j 0) (r.getD (i + 1 - (j + 1)) 0))) j 0) (j + 1 : Nat)) rfl (fun j hj => ?_) ?_
    · refine q_spec_PartLikes_L2 _ _ _ _ _ _ _ _ _ ?_
      have e1 : IntKind.wrap .i64 (((j + 1 : Nat) : Int) - 1) = (j : Nat) := by rw [wrap64_id (by omega) (by omega)]; omega
      have e2 : IntKind.wrap .i64 (((i + 1 : Nat) : Int) - (j + 1 : Nat)) = (i + 1 - (j + 1) : Nat) := by rw [wrap64_id (by omega) (by omega)]; omega
      have e3 : IntKind.wrap .i64 (((j + 1 : Nat) : Int) + 1) = (j + 1 + 1 : Nat) := by rw [wrap64_id (by omega) (by omega)]; omega
      rw [e1, e2, e3]
      simp only [Int.toNat_natCast]
      repeat' (first | with_reducible refine T.ok_ob ?_ (fun _ => ?_) | with_reducible refine T.ok_ite (fun _ => ?_) (fun _ => ?_) | with_reducible refine T.ok_leaf ?_)
      all_goals (try simp only [decide_eq_true_eq, decide_eq_false_iff_not, Bool.not_eq_true', Bool.not_eq_false', Bool.not_eq_eq_eq_not, Bool.not_true, Bool.not_false, Int.toNat_natCast, tab_len, List.length_append, List.length_singleton, List.length_cons, List.length_nil, List.length_drop, List.length_take, getD_drop', getD_nat, reduceCtorEq] at *)
      all_goals (try simp (disch := omega) only [wrap64_id] at *)
      all_goals first | omega | (exfalso; omega) | exact True.intro | skip
      all_goals rfl
    · refine q_spec_PartLikes_L2 _ _ _ _ _ _ _ _ _ ?_
      repeat' (first | with_reducible refine T.ok_ob ?_ (fun _ => ?_) | with_reducible refine T.ok_ite (fun _ => ?_) (fun _ => ?_) | with_reducible refine T.ok_leaf ?_)
      all_goals (try simp only [decide_eq_true_eq, decide_eq_false_iff_not, Bool.not_eq_true', Bool.not_eq_false', Bool.not_eq_eq_eq_not, Bool.not_true, Bool.not_false, Int.toNat_natCast, tab_len, List.length_append, List.length_singleton, List.length_cons, List.length_nil, List.length_drop, List.length_take, getD_drop', getD_nat, reduceCtorEq] at *)
      all_goals (try simp (disch := omega) only [wrap64_id] at *)
      all_goals first | omega | (exfalso; omega) | exact True.intro | skip
      all_goals rfl
  have in4 : ∀ i, i < m → Exec (VCall P) ps_spec_PartLikes (.block 4 (.loop (b_spec_PartLikes_L4 g1 g2))) (h_spec_PartLikes_L4 a m r (plQ r i) (plM r i) (i + 1 : Nat) r (plQ r i) (plM r i) [] 1) .normal
      (h_spec_PartLikes_L4 a m r (plQ r i) (plM r i) (i + 1 : Nat) r (plQ r i) (plM r i) (tab i fun j => fsub .f32 ((plQ r i).getD j 0) (fmul .f32 (plX r (plQ r i) (i + 1)) ((plQ r i).getD (i - 1 - j) 0))) (i + 1 : Nat)) := by
    intro i hi
    have ql := plQ_len r i
    refine for_up (e := .exit 4) i (fun j => h_spec_PartLikes_L4 a m r (plQ r i) (plM r i) (i + 1 : Nat) r (plQ r i) (plM r i) (tab j fun j => fsub .f32 ((plQ r i).getD j 0) (fmul .f32 (plX r (plQ r i) (i + 1)) ((plQ r i).getD (i - 1 - j) 0))) (j + 1 : Nat)) rfl (fun j hj => ?_) ?_
    · refine q_spec_PartLikes_L4 _ _ _ _ _ _ _ _ _ _ _ ?_
      have e1 : IntKind.wrap .i64 (((j + 1 : Nat) : Int) - 1) = (j : Nat) := by rw [wrap64_id (by omega) (by omega)]; omega
      have e2 : IntKind.wrap .i64 (((i + 1 : Nat) : Int) - (j + 1 : Nat)) = (i - j : Nat) := by rw [wrap64_id (by omega) (by omega)]; omega
      have e4 : IntKind.wrap .i64 (((i - j : Nat) : Int) - 1) = (i - 1 - j : Nat) := by rw [wrap64_id (by omega) (by omega)]; omega
      have e3 : IntKind.wrap .i64 (((j + 1 : Nat) : Int) + 1) = (j + 1 + 1 : Nat) := by rw [wrap64_id (by omega) (by omega)]; omega
      rw [e1, e2, e3, e4, tab_succ]
      simp only [Int.toNat_natCast]
      have tl := tab_len j fun j => fsub .f32 ((plQ r i).getD j 0) (fmul .f32 (plX r (plQ r i) (i + 1)) ((plQ r i).getD (i - 1 - j) 0))
      repeat' (first | with_reducible refine T.ok_ob ?_ (fun _ => ?_) | with_reducible refine T.ok_ite (fun _ => ?_) (fun _ => ?_) | with_reducible refine T.ok_leaf ?_)
      all_goals (try simp only [decide_eq_true_eq, decide_eq_false_iff_not, Bool.not_eq_true', Bool.not_eq_false', Bool.not_eq_eq_eq_not, Bool.not_true, Bool.not_false, Int.toNat_natCast, tab_len, List.length_append, List.length_singleton, List.length_cons, List.length_nil, List.length_drop, List.length_take, getD_drop', getD_nat, reduceCtorEq] at *)
      all_goals (try simp (disch := omega) only [wrap64_id] at *)
      all_goals first | omega | (exfalso; omega) | exact True.intro | skip
      all_goals rfl
    · refine q_spec_PartLikes_L4 _ _ _ _ _ _ _ _ _ _ _ ?_
      repeat' (first | with_reducible refine T.ok_ob ?_ (fun _ => ?_) | with_reducible refine T.ok_ite (fun _ => ?_) (fun _ => ?_) | with_reducible refine T.ok_leaf ?_)
      all_goals (try simp only [decide_eq_true_eq, decide_eq_false_iff_not, Bool.not_eq_true', Bool.not_eq_false', Bool.not_eq_eq_eq_not, Bool.not_true, Bool.not_false, Int.toNat_natCast, tab_len, List.length_append, List.length_singleton, List.length_cons, List.length_nil, List.length_drop, List.length_take, getD_drop', getD_nat, reduceCtorEq] at *)
      all_goals (try simp (disch := omega) only [wrap64_id] at *)
      all_goals first | omega | (exfalso; omega) | exact True.intro | skip
      all_goals rfl
  have rd : ∀ i, i < m → plC r i = true → Exec (VCall P) ps_spec_PartLikes (b_spec_PartLikes_L0 g1 g2) (st i) .normal (st (i + 1)) := by
    intro i hi hc
    have key : Exec (VCall P) ps_spec_PartLikes (b_spec_PartLikes_L0 g1 g2) (st i) .normal (Env.rnm 624 208 (st (i + 1))) := by
      refine q_spec_PartLikes_L0 _ _ _ _ _ _ ?_
      have e3 : IntKind.wrap .i64 (((i + 1 : Nat) : Int) + 1) = (i + 1 + 1 : Nat) := by rw [wrap64_id (by omega) (by omega)]; omega
      rw [e3]
      simp only [Int.toNat_natCast]
      have et : (tab (i + 1 - 1) fun j => fsub .f32 ((plQ r i).getD j 0) (fmul .f32 (plX r (plQ r i) (i + 1)) ((plQ r i).getD (i + 1 - 2 - j) 0))) = tab i fun j => fsub .f32 ((plQ r i).getD j 0) (fmul .f32 (plX r (plQ r i) (i + 1)) ((plQ r i).getD (i - 1 - j) 0)) := by
        rw [Nat.add_sub_cancel]
        exact tab_congr fun j hj => by rw [show i + 1 - 2 - j = i - 1 - j by omega]
      have hf : feq .f32 (fsub .f32 1065353216 (plDown r (plQ r i) (i + 1))) 0 = false := by unfold plC at hc; simpa [plBot] using hc
      have i2 := in2 i hi
      have i4 := in4 i hi
      rw [et, hf]
      have tl := tab_len i fun j => fsub .f32 ((plQ r i).getD j 0) (fmul .f32 (plX r (plQ r i) (i + 1)) ((plQ r i).getD (i - 1 - j) 0))
      have ml := plM_len r i
      repeat' (first | with_reducible refine T.ok_ob ?_ (fun _ => ?_) | with_reducible refine T.ok_ite (fun _ => ?_) (fun _ => ?_) | with_reducible refine T.ok_leaf ?_)
      all_goals first | exact i2 | exact i4 | trivial | contradiction | omega | (simp only [List.length_append, List.length_singleton]; omega) | (exfalso; simp only [decide_eq_false_iff_not] at *; omega) | skip
      all_goals (simp only [st]; rw [plQ_next, plM_next]; rfl)
    exact Exec.renameR 624 208 (by decide) (by decide) key
  have rx : ∀ i, i < m → plC r i = false → Exec (VCall P) ps_spec_PartLikes (b_spec_PartLikes_L0 g1 g2) (st i) .ret (anys 4 ++ .sl .nil 0 (.f .f32 []) :: .b false :: anys 108) := by
    intro i hi hc
    refine q_spec_PartLikes_L0 _ _ _ _ _ _ ?_
    simp only [Int.toNat_natCast]
    have hf : feq .f32 (fsub .f32 1065353216 (plDown r (plQ r i) (i + 1))) 0 = true := by unfold plC at hc; simpa [plBot] using hc
    have i2 := in2 i hi
    rw [hf]
    repeat' (first | with_reducible refine T.ok_ob ?_ (fun _ => ?_) | with_reducible refine T.ok_ite (fun _ => ?_) (fun _ => ?_) | with_reducible refine T.ok_leaf ?_)
    all_goals first | exact i2 | trivial | contradiction | omega | rfl | (exfalso; simp only [decide_eq_false_iff_not] at *; omega)
  have ml := plM_len r m
  cases hf : plFin r m
  · have main : Exec (VCall P) ps_spec_PartLikes (.block 0 (.loop (b_spec_PartLikes_L0 g1 g2))) (st 0) .ret _ := for_one (e := .ret) (plC r) m st hf rfl rd rx
    repeat' (first | with_reducible refine T.ok_ob ?_ (fun _ => ?_) | with_reducible refine T.ok_ite (fun _ => ?_) (fun _ => ?_) | with_reducible refine T.ok_leaf ?_)
    all_goals first | exact a1 | exact main | contradiction | trivial | rfl
  · have main : Exec (VCall P) ps_spec_PartLikes (.block 0 (.loop (b_spec_PartLikes_L0 g1 g2))) (st 0) .normal (st m) := by
      refine for_all (e := .exit 0) (plC r) m st hf rfl rd ?_
      refine q_spec_PartLikes_L0 _ _ _ _ _ _ ?_
      repeat' (first | with_reducible refine T.ok_ob ?_ (fun _ => ?_) | with_reducible refine T.ok_ite (fun _ => ?_) (fun _ => ?_) | with_reducible refine T.ok_leaf ?_)
      all_goals first | rfl | (exfalso; simp only [decide_eq_true_eq] at *; omega)
    have a2 := c2 (plM r m) (by rw [ml, maxLen_eq]; omega)
    repeat' (first | with_reducible refine T.ok_ob ?_ (fun _ => ?_) | with_reducible refine T.ok_ite (fun _ => ?_) (fun _ => ?_) | with_reducible refine T.ok_leaf ?_)
    all_goals first | exact a1 | exact main | exact a2 | contradiction | trivial | (simp [ifAllM]; done) | rfl

/-- the impl's list while it is rewritten -/
def plP (p : List Nat) (x k n j : Nat) : List Nat := tab n fun t => if 1 ≤ t ∧ t ≤ j then fsub .f32 (p.getD t 0) (fmul .f32 x (p.getD (k - t) 0)) else p.getD t 0
theorem plP_zero (p : List Nat) (x k : Nat) : plP p x k p.length 0 = p := by
  unfold plP
  refine ext_getD (tab_len _ _) fun i hi => ?_
  rw [tab_len] at hi
  rw [tab_get _ _ _ _ hi, if_neg (by omega)]
theorem plP_next (p : List Nat) (x k n j : Nat) (h : j + 1 < n) : (plP p x k n j).set (j + 1) (fsub .f32 (p.getD (j + 1) 0) (fmul .f32 x (p.getD (k - (j + 1)) 0))) = plP p x k n (j + 1) := by
  unfold plP
  rw [tab_set]
  refine tab_congr fun t ht => ?_
  by_cases h1 : t = j + 1
  · subst h1; rw [if_pos rfl, if_pos ⟨by omega, by omega⟩]
  · rw [if_neg h1]
    by_cases h2 : 1 ≤ t ∧ t ≤ j
    · rw [if_pos h2, if_pos ⟨h2.1, by omega⟩]
    · rw [if_neg h2, if_neg (by omega)]
theorem plP_all (q : List Nat) (x i : Nat) (hq : q.length = i) : plP (0 :: q) x (i + 1) (i + 1) i = 0 :: tab i fun j => fsub .f32 (q.getD j 0) (fmul .f32 x (q.getD (i - 1 - j) 0)) := by
  refine ext_getD (by simp [plP, tab_len]) fun t ht => ?_
  have ht' : t < i + 1 := by simpa [plP, tab_len] using ht
  unfold plP
  rw [tab_get _ _ _ _ ht']
  cases t with
  | zero => rfl
  | succ t =>
    rw [if_pos ⟨by omega, by omega⟩]
    have e : (0 :: tab i fun j => fsub .f32 (q.getD j 0) (fmul .f32 x (q.getD (i - 1 - j) 0))).getD (t + 1) 0 = (tab i fun j => fsub .f32 (q.getD j 0) (fmul .f32 x (q.getD (i - 1 - j) 0))).getD t 0 := rfl
    rw [e, tab_get _ _ _ _ (by omega), show i + 1 - (t + 1) = (i - 1 - t) + 1 by omega]
    rfl
theorem k_impl_PartLikes {f g1 g2 g3 : FuncId} (h : Is_impl_PartLikes P f g1 g2 g3) (c1 : C_impl_SelfLikes P g1) (c2 : C_slices_Clone___float32_float32_ P g2) (c3 : C_impl_ifAll P g3) : C_impl_PartLikes P f := by
  intro a most hx
  refine q_impl_PartLikes h a most ?_
  have a1 := c1 a most hx
  cases hk : likesOk a most
  · have ho : plOk a most = false := by unfold plOk; rw [hk, Bool.false_and]
    rw [hk] at a1
    rw [ho]
    repeat' (first | with_reducible refine T.ok_ob ?_ (fun _ => ?_) | with_reducible refine T.ok_ite (fun _ => ?_) (fun _ => ?_) | with_reducible refine T.ok_leaf ?_)
    all_goals first | exact a1 | contradiction | rfl
  have hb := pl_bounds hk
  obtain ⟨m, rfl⟩ : ∃ m : Nat, most = m := ⟨most.toNat, by omega⟩
  have hout : likesOut a m = likesM a m := by unfold likesOut; rw [hk]; rfl
  rw [hk, hout] at a1
  rw [hout]
  simp only [Int.toNat_natCast]
  have hr := likes_len a m
  have ho : plOk a m = (plFin (likesM a m) m && finAllM (plM (likesM a m) m)) := by unfold plOk; rw [hk]; rfl
  rw [ho]
  generalize likesM a m = r at *
  let st : Nat → Env := fun i => h_impl_PartLikes_L0 a m r (plM r i) (0 :: plQ r i) (i + 1 : Nat)
  have in2 : ∀ i, i < m → Exec (VCall P) ps_impl_PartLikes (.block 2 (.loop (b_impl_PartLikes_L2 g1 g2 g3))) (h_impl_PartLikes_L2 a m r (plM r i) (0 :: plQ r i) (i + 1 : Nat) 0 0 1) .normal
      (h_impl_PartLikes_L2 a m r (plM r i) (0 :: plQ r i) (i + 1 : Nat) (plUp r (plQ r i) (i + 1)) (plDown r (plQ r i) (i + 1)) (i + 1 : Nat)) := by
    intro i hi
    have ql : (0 :: plQ r i).length = i + 1 := by rw [List.length_cons, plQ_len]
    refine for_up (e := .exit 2) i (fun j => h_impl_PartLikes_L2 a m r (plM r i) (0 :: plQ r i) (i + 1 : Nat) (accN (fun j s => fadd .f32 s (fmul .f32 ((plQ r i).getD j 0) (r.getD (i + 1 - (j + 1)) 0))) j 0) (accN (fun j s => fadd .f32 s (fmul .f32 ((plQ r i).getD j 0) (r.getD (j + 1) 0))) j 0) (j + 1 : Nat)) rfl (fun j hj => ?_) ?_
    · refine q_impl_PartLikes_L2 _ _ _ _ _ _ _ _ _ ?_
      have e2 : IntKind.wrap .i64 (((i + 1 : Nat) : Int) - (j + 1 : Nat)) = (i + 1 - (j + 1) : Nat) := by rw [wrap64_id (by omega) (by omega)]; omega
      have e3 : IntKind.wrap .i64 (((j + 1 : Nat) : Int) + 1) = (j + 1 + 1 : Nat) := by rw [wrap64_id (by omega) (by omega)]; omega
      rw [e2, e3]
      simp only [Int.toNat_natCast]
      rw [ql]
      repeat' (first | with_reducible refine T.ok_ob ?_ (fun _ => ?_) | with_reducible refine T.ok_ite (fun _ => ?_) (fun _ => ?_) | with_reducible refine T.ok_leaf ?_)
      all_goals first | omega | rfl | (exfalso; simp only [decide_eq_false_iff_not] at *; omega)
    · refine q_impl_PartLikes_L2 _ _ _ _ _ _ _ _ _ ?_
      repeat' (first | with_reducible refine T.ok_ob ?_ (fun _ => ?_) | with_reducible refine T.ok_ite (fun _ => ?_) (fun _ => ?_) | with_reducible refine T.ok_leaf ?_)
      all_goals first | rfl | (exfalso; simp only [decide_eq_true_eq] at *; omega)
  have in4 : ∀ i, i < m → Exec (VCall P) ps_impl_PartLikes (.block 4 (.loop (b_impl_PartLikes_L4 g1 g2 g3))) (h_impl_PartLikes_L4 a m r (plM r i) (0 :: plQ r i) (i + 1 : Nat) r (plM r i) (0 :: plQ r i) (0 :: plQ r i) 1) .normal
      (h_impl_PartLikes_L4 a m r (plM r i) (0 :: plQ r i) (i + 1 : Nat) r (plM r i) (0 :: tab i fun j => fsub .f32 ((plQ r i).getD j 0) (fmul .f32 (plX r (plQ r i) (i + 1)) ((plQ r i).getD (i - 1 - j) 0))) (0 :: plQ r i) (i + 1 : Nat)) := by
    intro i hi
    have ql : (0 :: plQ r i).length = i + 1 := by rw [List.length_cons, plQ_len]
    rw [← plP_all _ _ _ (plQ_len r i)]
    refine for_up (e := .exit 4) i (fun j => h_impl_PartLikes_L4 a m r (plM r i) (0 :: plQ r i) (i + 1 : Nat) r (plM r i) (plP (0 :: plQ r i) (plX r (plQ r i) (i + 1)) (i + 1) (i + 1) j) (0 :: plQ r i) (j + 1 : Nat)) ?_ (fun j hj => ?_) ?_
    · show _ = _
      have := plP_zero (0 :: plQ r i) (plX r (plQ r i) (i + 1)) (i + 1)
      rw [ql] at this
      rw [this]; rfl
    · refine q_impl_PartLikes_L4 _ _ _ _ _ _ _ _ _ _ _ ?_
      have e2 : IntKind.wrap .i64 (((i + 1 : Nat) : Int) - (j + 1 : Nat)) = (i + 1 - (j + 1) : Nat) := by rw [wrap64_id (by omega) (by omega)]; omega
      have e3 : IntKind.wrap .i64 (((j + 1 : Nat) : Int) + 1) = (j + 1 + 1 : Nat) := by rw [wrap64_id (by omega) (by omega)]; omega
      have pn := plP_next (0 :: plQ r i) (plX r (plQ r i) (i + 1)) (i + 1) (i + 1) j (by omega)
      have pl : (plP (0 :: plQ r i) (plX r (plQ r i) (i + 1)) (i + 1) (i + 1) j).length = i + 1 := tab_len _ _
      rw [e2, e3]
      simp only [Int.toNat_natCast, Nat.zero_add, Nat.sub_zero]
      rw [ql, pl]
      repeat' (first | with_reducible refine T.ok_ob ?_ (fun _ => ?_) | with_reducible refine T.ok_ite (fun _ => ?_) (fun _ => ?_) | with_reducible refine T.ok_leaf ?_)
      all_goals first | omega | trivial | (exfalso; simp only [decide_eq_false_iff_not] at *; omega) | skip
      all_goals (rw [← pn]; rfl)
    · refine q_impl_PartLikes_L4 _ _ _ _ _ _ _ _ _ _ _ ?_
      repeat' (first | with_reducible refine T.ok_ob ?_ (fun _ => ?_) | with_reducible refine T.ok_ite (fun _ => ?_) (fun _ => ?_) | with_reducible refine T.ok_leaf ?_)
      all_goals first | rfl | (exfalso; simp only [decide_eq_true_eq] at *; omega)
  have rd : ∀ i, i < m → plC r i = true → Exec (VCall P) ps_impl_PartLikes (b_impl_PartLikes_L0 g1 g2 g3) (st i) .normal (st (i + 1)) := by
    intro i hi hc
    refine q_impl_PartLikes_L0 _ _ _ _ _ _ ?_
    have ql := plQ_len r i
    have e3 : IntKind.wrap .i64 (((i + 1 : Nat) : Int) + 1) = (i + 1 + 1 : Nat) := by rw [wrap64_id (by omega) (by omega)]; omega
    rw [e3]
    simp only [Int.toNat_natCast]
    have u1 : upP r (0 :: plQ r i) (i + 1) = plUp r (plQ r i) (i + 1) := rfl
    have u2 : dnP r (0 :: plQ r i) (i + 1) = plDown r (plQ r i) (i + 1) := rfl
    have u3 : xP r (0 :: plQ r i) (i + 1) = plX r (plQ r i) (i + 1) := rfl
    have et : (List.take 1 (0 :: plQ r i) ++ tab (i + 1 - 1) fun j => fsub .f32 ((0 :: plQ r i).getD (j + 1) 0) (fmul .f32 (plX r (plQ r i) (i + 1)) ((0 :: plQ r i).getD (i + 1 - 1 - j) 0))) = 0 :: tab i fun j => fsub .f32 ((plQ r i).getD j 0) (fmul .f32 (plX r (plQ r i) (i + 1)) ((plQ r i).getD (i - 1 - j) 0)) := by
      show 0 :: tab (i + 1 - 1) _ = _
      rw [Nat.add_sub_cancel]
      congr 1
      refine tab_congr fun j hj => ?_
      rw [show i - j = (i - 1 - j) + 1 by omega]
      rfl
    have hf : feq .f32 (fsub .f32 1065353216 (plDown r (plQ r i) (i + 1))) 0 = false := by unfold plC at hc; simpa [plBot] using hc
    have i2 := in2 i hi
    have i4 := in4 i hi
    have i3 := c2 (0 :: plQ r i) (by simp) (by rw [List.length_cons]; omega)
    rw [u1, u2, u3, et, hf]
    have tl := tab_len i fun j => fsub .f32 ((plQ r i).getD j 0) (fmul .f32 (plX r (plQ r i) (i + 1)) ((plQ r i).getD (i - 1 - j) 0))
    have ml := plM_len r i
    repeat' (first | with_reducible refine T.ok_ob ?_ (fun _ => ?_) | with_reducible refine T.ok_ite (fun _ => ?_) (fun _ => ?_) | with_reducible refine T.ok_leaf ?_)
    all_goals first | exact i2 | exact i4 | exact i3 | trivial | contradiction | omega | (simp only [List.length_append, List.length_cons, List.length_nil]; omega) | (exfalso; simp only [decide_eq_false_iff_not] at *; omega) | skip
    all_goals (simp only [st]; rw [plQ_next, plM_next]; rfl)
  have rx : ∀ i, i < m → plC r i = false → Exec (VCall P) ps_impl_PartLikes (b_impl_PartLikes_L0 g1 g2 g3) (st i) .ret (anys 4 ++ .sl .nil 0 (.f .f32 []) :: .b false :: anys 102) := by
    intro i hi hc
    refine q_impl_PartLikes_L0 _ _ _ _ _ _ ?_
    simp only [Int.toNat_natCast]
    have u1 : upP r (0 :: plQ r i) (i + 1) = plUp r (plQ r i) (i + 1) := rfl
    have u2 : dnP r (0 :: plQ r i) (i + 1) = plDown r (plQ r i) (i + 1) := rfl
    have hf : feq .f32 (fsub .f32 1065353216 (plDown r (plQ r i) (i + 1))) 0 = true := by unfold plC at hc; simpa [plBot] using hc
    have i2 := in2 i hi
    rw [u1, u2, hf]
    repeat' (first | with_reducible refine T.ok_ob ?_ (fun _ => ?_) | with_reducible refine T.ok_ite (fun _ => ?_) (fun _ => ?_) | with_reducible refine T.ok_leaf ?_)
    all_goals first | exact i2 | trivial | contradiction | omega | rfl | (exfalso; simp only [decide_eq_false_iff_not] at *; omega)
  have ml := plM_len r m
  cases hf : plFin r m
  · have main : Exec (VCall P) ps_impl_PartLikes (.block 0 (.loop (b_impl_PartLikes_L0 g1 g2 g3))) (st 0) .ret _ := for_one (e := .ret) (plC r) m st hf rfl rd rx
    repeat' (first | with_reducible refine T.ok_ob ?_ (fun _ => ?_) | with_reducible refine T.ok_ite (fun _ => ?_) (fun _ => ?_) | with_reducible refine T.ok_leaf ?_)
    all_goals first | exact a1 | exact main | contradiction | trivial | rfl
  · have main : Exec (VCall P) ps_impl_PartLikes (.block 0 (.loop (b_impl_PartLikes_L0 g1 g2 g3))) (st 0) .normal (st m) := by
      refine for_all (e := .exit 0) (plC r) m st hf rfl rd ?_
      refine q_impl_PartLikes_L0 _ _ _ _ _ _ ?_
      repeat' (first | with_reducible refine T.ok_ob ?_ (fun _ => ?_) | with_reducible refine T.ok_ite (fun _ => ?_) (fun _ => ?_) | with_reducible refine T.ok_leaf ?_)
      all_goals first | rfl | (exfalso; simp only [decide_eq_true_eq] at *; omega)
    have a2 := c3 (plM r m) (by rw [ml, maxLen_eq]; omega)
    repeat' (first | with_reducible refine T.ok_ob ?_ (fun _ => ?_) | with_reducible refine T.ok_ite (fun _ => ?_) (fun _ => ?_) | with_reducible refine T.ok_leaf ?_)
    all_goals first | exact a1 | exact main | exact a2 | contradiction | trivial | (simp [ifAllM]; done) | rfl
end
end Go.Proofs.LV
