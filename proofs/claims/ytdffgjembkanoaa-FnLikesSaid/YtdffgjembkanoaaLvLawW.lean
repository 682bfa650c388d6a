/- The law FnFolded. -/
import Derived.Test.YtdffgjembkanoaaLvFnFF
import Derived.Test.YtdffgjembkanoaaLvFnGX
import Derived.Test.YtdffgjembkanoaaLvHalfX
import Derived.Test.YtdffgjembkanoaaLvRatS
namespace Go.Proofs.LV
open Go Ieee
set_option linter.unusedVariables false
set_option linter.unusedSimpArgs false

-- FN laws_b10Long
/-- laws.b10Long: slots 13, results [.t 4]; calls []; names [(code, 0), (more, 1), (code, 2), (more, 3)] -/
def ps_laws_b10Long : List Nat := [0, 1, 4]
def b_laws_b10Long : VCode :=
  (.seq
   (.region false [
    ⟨some 4, .mv, [.k (.b false)], none⟩])
   (.seq
    (.region false [
     ⟨some 5, .mv, [.t 0], none⟩,
     ⟨some 6, .len, [.t 5], none⟩,
     ⟨some 7, (.bin .gtr), [.t 6, .k (.i .i64 1048576)], none⟩,
     ⟨some 8, .mv, [.t 7], none⟩,
     ⟨some 9, .mv, [.t 1], some (8, false)⟩,
     ⟨some 10, .len, [.t 9], some (8, false)⟩,
     ⟨some 11, (.bin .gtr), [.t 10, .k (.i .i64 1048576)], some (8, false)⟩,
     ⟨some 12, .pick, [.t 8, .k (.b true), .t 11], none⟩,
     ⟨some 4, .mv, [.t 12], none⟩])
    .ret))

abbrev Is_laws_b10Long (P : Program) (g_f : FuncId) : Prop := FnIs P g_f 13 [.t 4] (b_laws_b10Long)

abbrev C_laws_b10Long (P : Program) (g_f : FuncId) : Prop := ∀ (cs : List Int) (ms : List Int), VCall P g_f [PU [0] cs, PU [1] ms] (.b (decide ((cs.length : Int) > 1048576) || decide ((ms.length : Int) > 1048576)))
def oc1_laws_b10Long (as : List AV) : T AV := match as with | [.sl _ _ (.i _ cs), .sl _ _ (.i _ ms)] => .leaf (.b (decide ((cs.length : Int) > 1048576) || decide ((ms.length : Int) > 1048576))) | _ => .fail



theorem q_laws_b10Long {P : Program} {g_f : FuncId} (h_ : Is_laws_b10Long P g_f) (cs : List Int) (ms : List Int) (ht : T.ok (fun x_ => x_ = .b (decide ((cs.length : Int) > 1048576) || decide ((ms.length : Int) > 1048576))) (
      T.ite (decide ((↑(List.length cs) : Int) > 1048576)) (T.leaf (AV.b true)) (T.leaf (AV.b (decide ((↑(List.length ms) : Int) > 1048576)))))) :
    VCall P g_f [PU [0] cs, PU [1] ms] (.b (decide ((cs.length : Int) > 1048576) || decide ((ms.length : Int) > 1048576))) := h_.call_of ps_laws_b10Long ⟨fun _ _ => .fail, fun _ _ => none⟩ (by kernel_rfl) ht

-- END laws_b10Long

def btM (cs : List Int) (i n : Int) : Int := if n ≤ 1 then 0 else if i < cs.length then (cs.getD i.toNat 0).tmod n else (i * 37 + 11).tmod n
-- FN laws_b10At
/-- laws.b10At: slots 25, results [.t 6]; calls []; names [(code, 0), (i, 1), (n, 2), (code, 3), (i, 4), (n, 5)] -/
def ps_laws_b10At : List Nat := [0, 1, 2, 6, 8, 12]
def b_laws_b10At : VCode :=
  (.seq
   (.region false [
    ⟨some 6, .mv, [.k (.i .i64 0)], none⟩])
   (.seq
    (.seq
     (.region false [
      ⟨some 7, .mv, [.t 2], none⟩,
      ⟨some 8, (.bin .leq), [.t 7, .k (.i .i64 1)], none⟩])
     (.cond (.t 8)
      (.seq
       (.region false [
        ⟨some 6, .mv, [.k (.i .i64 0)], none⟩])
       .ret)
      .skip))
    (.seq
     (.seq
      (.region false [
       ⟨some 9, .mv, [.t 1], none⟩,
       ⟨some 10, .mv, [.t 0], none⟩,
       ⟨some 11, .len, [.t 10], none⟩,
       ⟨some 12, (.bin .lss), [.t 9, .t 11], none⟩])
      (.cond (.t 12)
       (.seq
        (.region false [
         ⟨some 13, .mv, [.t 0], none⟩,
         ⟨some 14, .mv, [.t 1], none⟩,
         ⟨some 15, .iaddr, [.t 13, .t 14], none⟩,
         ⟨some 16, .load, [.t 15], none⟩,
         ⟨some 17, (.convI .i64), [.t 16], none⟩,
         ⟨some 18, .mv, [.t 2], none⟩,
         ⟨some 19, (.bin .rem), [.t 17, .t 18], none⟩,
         ⟨some 6, .mv, [.t 19], none⟩])
        .ret)
       .skip))
     (.seq
      (.region false [
       ⟨some 20, .mv, [.t 1], none⟩,
       ⟨some 21, (.bin .mul), [.t 20, .k (.i .i64 37)], none⟩,
       ⟨some 22, (.bin .add), [.t 21, .k (.i .i64 11)], none⟩,
       ⟨some 23, .mv, [.t 2], none⟩,
       ⟨some 24, (.bin .rem), [.t 22, .t 23], none⟩,
       ⟨some 6, .mv, [.t 24], none⟩])
      .ret))))

abbrev Is_laws_b10At (P : Program) (g_f : FuncId) : Prop := FnIs P g_f 25 [.t 6] (b_laws_b10At)

abbrev C_laws_b10At (P : Program) (g_f : FuncId) : Prop := ∀ (cs : List Int) (i : Int) (n : Int) (hi : 0 ≤ i ∧ i ≤ 1000000) (hc : Byt cs), VCall P g_f [PU [0] cs, .i .i64 i, .i .i64 n] (.i .i64 (btM cs i n))
def oc1_laws_b10At (as : List AV) : T AV := match as with | [.sl _ _ (.i _ cs), .i .i64 i, .i .i64 n] => .leaf (.i .i64 (btM cs i n)) | _ => .fail



theorem q_laws_b10At {P : Program} {g_f : FuncId} (h_ : Is_laws_b10At P g_f) (cs : List Int) (i : Int) (n : Int) (ht : T.ok (fun x_ => x_ = .i .i64 (btM cs i n)) (
      T.ite (decide (n ≤ 1)) (T.leaf (AV.i IntKind.i64 0))
        (T.ite (decide (i < (↑(List.length cs) : Int)))
          (T.ob (0 ≤ i ∧ i < (↑(List.length cs) : Int)) (T.ob True (T.ob (n ≠ 0) (T.leaf (AV.i IntKind.i64 (Int.tmod (IntKind.wrap IntKind.i64 (List.getD cs (Int.toNat i) 0)) n))))))
          (T.ob (n ≠ 0) (T.leaf (AV.i IntKind.i64 (Int.tmod (IntKind.wrap IntKind.i64 (IntKind.wrap IntKind.i64 (i * 37) + 11)) n))))))) :
    VCall P g_f [PU [0] cs, .i .i64 i, .i .i64 n] (.i .i64 (btM cs i n)) := h_.call_of ps_laws_b10At ⟨fun _ _ => .fail, fun _ _ => none⟩ (by kernel_rfl) ht

-- END laws_b10At


def fdP (ms : List Int) : Int := 2 + btM ms 0 4
def fdX (cs : List Int) (ms : List Int) : List Nat := s3L cs 0 0 (fdP ms)
def fdA (cs : List Int) (ms : List Int) : List Nat := tab (4 * (fdP ms).toNat) fun i => (fdX cs ms).getD (i % (fdP ms).toNat) 0
def fdM (cs : List Int) (ms : List Int) : List Nat := foldM (fdA cs ms) (fdP ms).toNat
def fdL (cs : List Int) (ms : List Int) : Nat := leftM (fdA cs ms) (fdM cs ms)
def fdB (cs : List Int) (ms : List Int) : Int × Nat := bpAt (fdA cs ms) 2 (bpN 2 (2 * fdP ms))
def fdY (ms : List Int) : List Nat := s3L ms 0 0 (2 * (1 + btM ms 2 10))
def fdZ (ms : List Int) : List Nat := backsM (swM (fdY ms)) (swS (fdY ms)) (swM (fdY ms)).length

/-! ### the numbers that are drawn -/
theorem four_rv : sf 1082130432 ∧ sv 1082130432 = 4 := by
  have h : fnt single 1082130432 := by unfold fnt; decide
  exact ⟨h, lit_neg h (m := 2 ^ 23) (n := 21) (by decide +kernel) (by decide +kernel)⟩
theorem half_rv : sf 1056964608 ∧ sv 1056964608 = 1 / 2 := by
  have h : fnt single 1056964608 := by unfold fnt; decide
  exact ⟨h, lit_neg h (m := 2 ^ 23) (n := 24) (by decide +kernel) (by decide +kernel)⟩
theorem quarter : (2 : Rat) ^ (-2 : Int) = 1 / 4 := zp_neg 2 (1 / 4) (by decide +kernel)
theorem eighth : (2 : Rat) ^ (-3 : Int) = 1 / 8 := zp_neg 3 (1 / 8) (by decide +kernel)
/-- one of the small numbers: quarters up to 4 -/
def Qx (x : Nat) : Prop := sf x ∧ Gr (-2) 16 (sv x)
theorem s3F_q {k : Int} (hk : 0 ≤ k ∧ k ≤ 32) : Qx (s3F k) := by
  obtain ⟨f1, f2⟩ := fofi_rv .f32 (n := k - 16) (by show (k - 16).natAbs < 2 ^ 24; omega)
  have hg : Gr (-2) 16 (((k - 16 : Int) : Rat) * 2 ^ (-2 : Int)) := ⟨k - 16, rfl, by omega⟩
  have h4 := four_rv
  have := div_gr .f32 (q := ((k - 16 : Int) : Rat) * 2 ^ (-2 : Int)) f1 h4.1 (by show rv single 1082130432 ≠ 0; rw [show rv single 1082130432 = 4 from h4.2]; decide)
    (by show _ * rv single 1082130432 = _; rw [show rv single 1082130432 = 4 from h4.2, f2, quarter]; grind) hg (by decide) (by decide) (by decide)
  refine ⟨this.1, ?_⟩
  show Gr (-2) 16 (rv single (fdiv .f32 _ _))
  rw [show rv single (fdiv .f32 (fofi .f32 (k - 16)) 1082130432) = _ from this.2]
  exact hg
theorem s3L_len (cs : List Int) (a s n : Int) : (s3L cs a s n).length = n.toNat := tab_len _ _
theorem s3L_q {cs : List Int} (hc : Byt cs) (a s n : Int) (i : Nat) (hi : i < n.toNat) : Qx ((s3L cs a s n).getD i 0) := by
  unfold s3L
  rw [tab_get _ _ _ _ hi]
  have hb := srV_le hc (a + i) (sdN cs a s i)
  have ht := tmod_byte (n := 33) hb.1 (by omega)
  exact s3F_q (by show 0 ≤ (srV cs (a + i) (sdN cs a s i)).tmod 33 ∧ _; unfold vlN; omega)
theorem q_bound {x : Nat} (h : Qx x) : -4 ≤ sv x ∧ sv x ≤ 4 := gr_bound (B := 4) h.2 (by rw [quarter]; decide +kernel)
theorem fne_of {x y : Nat} (hx : sf x) (hy : sf y) (h : sv x = sv y) : fne .f32 x y = false := by
  rw [fne_eq, feq_rv (k := .f32) hx hy]
  simp only [Bool.not_eq_false', decide_eq_true_eq]
  exact h
theorem series_of {xs : List Nat} (h1 : 1 ≤ xs.length) (h2 : xs.length ≤ 96) (h : ∀ i, i < xs.length → sf (xs.getD i 0)) : seriesM xs = true := by
  unfold seriesM
  rw [finAll_of h]
  simp; omega
/-! ### folded at any period -/
theorem cnt_ge {n p per : Nat} (hp : p < per) (hn : per ≤ n) : 1 ≤ cntM n p per := by
  have := (cnt_lt n p per 0 hp).2 (by omega)
  omega
theorem cnt_top (n p per : Nat) (h : 1 ≤ per) : cntM n p per ≤ n + 1 := by
  unfold cntM
  have := Nat.div_le_self n per
  split <;> omega
theorem fold_near {xs : List Nat} {per : Nat} (hq : ∀ i, i < xs.length → Qx (xs.getD i 0)) (h1 : 1 ≤ per) (h2 : per ≤ xs.length) (h3 : xs.length ≤ 96) (i : Nat) (hi : i < per) : sf ((foldM xs per).getD i 0) ∧ -5 ≤ sv ((foldM xs per).getD i 0) ∧ sv ((foldM xs per).getD i 0) ≤ 5 := by
  unfold foldM
  rw [tab_get _ _ _ _ hi]
  have c1 := cnt_ge hi h2
  have c2 := cnt_top xs.length i per h1
  have hs := acc_gr (g := fun j => xs.getD (i + j * per) 0) (j := -2) (b := 16) (by omega) (by omega) (cntM xs.length i per) (by omega) (fun j hj => by
    exact hq _ ((cnt_lt xs.length i per j hi).1 hj))
  show sf (fdiv .f32 (fsumM xs per i (cntM xs.length i per)) _) ∧ _
  show _ ∧ -5 ≤ sv (fdiv .f32 (fsumM xs per i (cntM xs.length i per)) _) ∧ sv (fdiv .f32 (fsumM xs per i (cntM xs.length i per)) _) ≤ 5
  have hs' : sf (fsumM xs per i (cntM xs.length i per)) ∧ Gr (-2) (16 * cntM xs.length i per) (sv (fsumM xs per i (cntM xs.length i per))) := ⟨hs.1, hs.2.1⟩
  generalize fsumM xs per i (cntM xs.length i per) = S at *
  generalize cntM xs.length i per = n at *
  obtain ⟨f1, f2⟩ := fofi_rv .f32 (n := (n : Int)) (by show ((n : Int)).natAbs < 2 ^ 24; omega)
  have f2 : sv (fofi .f32 (n : Int)) = (n : Rat) := f2
  have hnp : (0 : Rat) < (n : Rat) := by have := Rat.natCast_lt_natCast.2 (show 0 < n by omega); simpa using this
  have hb := gr_bound (B := 4 * n) hs'.2 (by rw [Rat.natCast_mul, quarter]; have : ((16 : Nat) : Rat) = 16 := rfl; rw [this]; grind)
  have hqe : sv S / (n : Rat) * (n : Rat) = sv S := Rat.div_mul_cancel (by grind)
  have hq1 : -4 ≤ sv S / (n : Rat) ∧ sv S / (n : Rat) ≤ 4 := by
    generalize sv S / (n : Rat) = q at *
    constructor
    · by_cases h : q < -4
      · have := Rat.mul_lt_mul_of_pos_right h hnp; grind
      · grind
    · by_cases h : 4 < q
      · have := Rat.mul_lt_mul_of_pos_right h hnp; grind
      · grind
  have hd := s_div (B := 4) (q := sv S / (n : Rat)) hs'.1 f1 (by rw [f2]; grind) (by rw [f2]; exact hqe) (by grind) hq1.2 (by grind)
  have e1 : e23 = 1 / 8388608 := rfl
  have e2 : eta = 1 / 1000000000000000000000000000000 := rfl
  obtain ⟨d1, d2, d3⟩ := hd
  rw [e1, e2] at d2 d3
  exact ⟨d1, by grind, by grind⟩
theorem left_near {xs ms : List Nat} (hq : ∀ i, i < xs.length → Qx (xs.getD i 0)) (h3 : xs.length ≤ 96) (h0 : 1 ≤ ms.length) (hm : ∀ i, i < ms.length → sf (ms.getD i 0) ∧ -5 ≤ sv (ms.getD i 0) ∧ sv (ms.getD i 0) ≤ 5) : sf (leftM xs ms) ∧ 0 ≤ sv (leftM xs ms) := by
  have := acc_pos (C := 101) (g := fun i => fmul .f32 (fsub .f32 (xs.getD i 0) (ms.getD (i % ms.length) 0)) (fsub .f32 (xs.getD i 0) (ms.getD (i % ms.length) 0))) (by decide) xs.length
    (by have := nat_le_rat h3; have e : ((96 : Nat) : Rat) = 96 := rfl; rw [e] at this; grind) (fun i hi => by
      have hx := q_bound (hq i hi)
      obtain ⟨m1, m2, m3⟩ := hm (i % ms.length) (Nat.mod_lt _ h0)
      have hs := s_sub (B := 9) (hq i hi).1 m1 (by grind) (by grind) (by grind)
      have e1 : e24 = 1 / 16777216 := rfl
      have e2 : eta = 1 / 1000000000000000000000000000000 := rfl
      obtain ⟨s1, s2, s3⟩ := hs
      rw [e1, e2] at s2 s3
      have := s_sq (B := 10) s1 (by grind) (by grind) (by grind) (by grind)
      exact ⟨this.1, this.2.1, by have := this.2.2; grind⟩)
  exact ⟨this.1, this.2.1⟩
/-! ### folded at its own period -/
theorem mod_add (i p j : Nat) (hi : i < p) : (i + j * p) % p = i := by rw [Nat.add_mul_mod_self_right, Nat.mod_eq_of_lt hi]
theorem own_fold {X : List Nat} {p : Nat} (hp : 1 ≤ p) (hl : X.length = p) (hq : ∀ i, i < p → Qx (X.getD i 0)) (i : Nat) (hi : i < p) :
    sf ((foldM (tab (4 * p) fun i => X.getD (i % p) 0) p).getD i 0) ∧ sv ((foldM (tab (4 * p) fun i => X.getD (i % p) 0) p).getD i 0) = sv (X.getD i 0) := by
  unfold foldM
  rw [tab_get _ _ _ _ hi, tab_len]
  have hc : cntM (4 * p) i p = 4 := by
    unfold cntM
    rw [Nat.mul_comm, Nat.mul_div_cancel_left _ (by omega), Nat.mul_mod_right]
    simp
  rw [hc]
  have hg : ∀ j, j < 4 → (tab (4 * p) fun i => X.getD (i % p) 0).getD (i + j * p) 0 = X.getD i 0 := by
    intro j hj
    have hlt : i + j * p < 4 * p := by
      have : j * p ≤ 3 * p := Nat.mul_le_mul_right _ (by omega)
      omega
    rw [tab_get _ _ _ _ hlt, mod_add i p j hi]
  have hs := acc_gr (g := fun j => (tab (4 * p) fun i => X.getD (i % p) 0).getD (i + j * p) 0) (j := -2) (b := 16) (by omega) (by omega) 4 (by omega) (fun j hj => by
    show sf ((tab (4 * p) fun i => X.getD (i % p) 0).getD (i + j * p) 0) ∧ _
    show _ ∧ Gr (-2) 16 (sv ((tab (4 * p) fun i => X.getD (i % p) 0).getD (i + j * p) 0))
    rw [hg j hj]; exact hq i hi)
  have hsum : sv (accN (fun j s => fadd .f32 s ((tab (4 * p) fun i => X.getD (i % p) 0).getD (i + j * p) 0)) 4 0) = 4 * sv (X.getD i 0) := by
    rw [hs.2.2, sumQ_congr (g := fun _ => sv (X.getD i 0)) 4 (fun j hj => by
      show sv ((tab (4 * p) fun i => X.getD (i % p) 0).getD (i + j * p) 0) = _
      rw [hg j hj]), sumQ_const]
    rfl
  unfold fsumM
  have hs1 := hs.1
  generalize accN (fun j s => fadd .f32 s ((tab (4 * p) fun i => X.getD (i % p) 0).getD (i + j * p) 0)) 4 0 = S at *
  obtain ⟨f1, f2⟩ := fofi_rv .f32 (n := ((4 : Nat) : Int)) (by decide)
  have f2 : rv single (fofi .f32 ((4 : Nat) : Int)) = 4 := f2
  have := div_gr .f32 (q := sv (X.getD i 0)) hs1 f1 (by show rv single _ ≠ 0; rw [f2]; decide) (by show _ * rv single (fofi .f32 ((4 : Nat) : Int)) = rv single S; rw [f2, show rv single S = _ from hsum]; grind) (hq i hi).2 (by decide) (by decide) (by decide)
  exact ⟨this.1, this.2⟩
theorem own_left {X : List Nat} {p : Nat} (hp : 1 ≤ p ∧ p ≤ 20) (hl : X.length = p) (hq : ∀ i, i < p → Qx (X.getD i 0)) {M : List Nat} (hM : M.length = p) (hm : ∀ i, i < p → sf (M.getD i 0) ∧ sv (M.getD i 0) = sv (X.getD i 0)) :
    sf (leftM (tab (4 * p) fun i => X.getD (i % p) 0) M) ∧ sv (leftM (tab (4 * p) fun i => X.getD (i % p) 0) M) = 0 := by
  unfold leftM
  rw [tab_len, hM]
  have hs := acc_gr (g := fun i => fmul .f32 (fsub .f32 ((tab (4 * p) fun i => X.getD (i % p) 0).getD i 0) (M.getD (i % p) 0)) (fsub .f32 ((tab (4 * p) fun i => X.getD (i % p) 0).getD i 0) (M.getD (i % p) 0))) (j := -4) (b := 0) (by omega) (by omega) (4 * p) (by omega) (fun i hi => by
    show sf (fmul .f32 (fsub .f32 ((tab (4 * p) fun i => X.getD (i % p) 0).getD i 0) (M.getD (i % p) 0)) (fsub .f32 ((tab (4 * p) fun i => X.getD (i % p) 0).getD i 0) (M.getD (i % p) 0))) ∧ Gr (-4) 0 (sv (fmul .f32 (fsub .f32 ((tab (4 * p) fun i => X.getD (i % p) 0).getD i 0) (M.getD (i % p) 0)) (fsub .f32 ((tab (4 * p) fun i => X.getD (i % p) 0).getD i 0) (M.getD (i % p) 0))))
    rw [tab_get _ _ _ _ hi]
    have hk : i % p < p := Nat.mod_lt _ (by omega)
    obtain ⟨m1, m2⟩ := hm _ hk
    obtain ⟨q1, q2⟩ := hq _ hk
    have q3 : Gr (-2) 16 (sv (M.getD (i % p) 0)) := by rw [m2]; exact q2
    obtain ⟨a1, a2⟩ := sub_gr .f32 q1 m1 q2 q3 (by decide) (by decide) (by decide)
    have a2 : rv single (fsub .f32 (X.getD (i % p) 0) (M.getD (i % p) 0)) = 0 := by
      have a3 : rv single (fsub .f32 (X.getD (i % p) 0) (M.getD (i % p) 0)) = rv single (X.getD (i % p) 0) - rv single (M.getD (i % p) 0) := a2
      rw [a3, show rv single (M.getD (i % p) 0) = _ from m2]; grind
    generalize fsub .f32 (X.getD (i % p) 0) (M.getD (i % p) 0) = D at *
    have g0 : Gr (-2) 0 (rv single D) := by rw [a2]; exact Gr.zero _ _
    obtain ⟨b1, b2⟩ := mul_gr .f32 (i := -2) (j := -2) (a := 0) (b := 0) a1 a1 g0 g0 (by decide) (by decide) (by decide)
    refine ⟨b1, ?_⟩
    show Gr (-4) 0 (rv single (fmul .f32 D D))
    rw [show rv single (fmul .f32 D D) = rv single D * rv single D from b2, a2]
    have : (0 : Rat) * 0 = 0 := by grind
    rw [this]; exact Gr.zero _ _)
  refine ⟨hs.1, ?_⟩
  have := hs.2.1
  rw [Nat.zero_mul] at this
  obtain ⟨c, h1, h2⟩ := this
  have : c = 0 := by omega
  subst this
  show rv single _ = 0
  rw [show rv single _ = _ from h1]; simp

/-! ### waves -/
theorem wave_pair {a b : Nat} (ha : Qx a) (hb : Qx b) :
    (sf (fmul .f32 1056964608 (fadd .f32 a b)) ∧ sf (fmul .f32 1056964608 (fsub .f32 a b))) ∧
    (sf (fadd .f32 (fmul .f32 1056964608 (fadd .f32 a b)) (fmul .f32 1056964608 (fsub .f32 a b))) ∧ sv (fadd .f32 (fmul .f32 1056964608 (fadd .f32 a b)) (fmul .f32 1056964608 (fsub .f32 a b))) = sv a) ∧
    (sf (fsub .f32 (fmul .f32 1056964608 (fadd .f32 a b)) (fmul .f32 1056964608 (fsub .f32 a b))) ∧ sv (fsub .f32 (fmul .f32 1056964608 (fadd .f32 a b)) (fmul .f32 1056964608 (fsub .f32 a b))) = sv b) := by
  obtain ⟨s1, s2⟩ := add_gr .f32 ha.1 hb.1 ha.2 hb.2 (by decide) (by decide) (by decide)
  obtain ⟨d1, d2⟩ := sub_gr .f32 ha.1 hb.1 ha.2 hb.2 (by decide) (by decide) (by decide)
  have s3 : rv single (fadd .f32 a b) = rv single a + rv single b := s2
  have d3 : rv single (fsub .f32 a b) = rv single a - rv single b := d2
  have s4 : Gr (-2) 32 (rv single (fadd .f32 a b)) := by rw [s3]; exact ha.2.add hb.2
  have d4 : Gr (-2) 32 (rv single (fsub .f32 a b)) := by rw [d3]; exact ha.2.sub hb.2
  obtain ⟨h1, h2⟩ := half_rv
  have h2 : rv single 1056964608 = 1 / 2 := h2
  have hg : Gr (-1) 1 (rv single 1056964608) := by
    rw [h2]
    refine ⟨1, ?_, by decide⟩
    have : (2 : Rat) ^ (-1 : Int) = 1 / 2 := zp_neg 1 (1 / 2) (by decide +kernel)
    rw [this]
    have : ((1 : Int) : Rat) = 1 := rfl
    rw [this]; grind
  obtain ⟨p1, p2⟩ := mul_gr .f32 (i := -1) (j := -2) (a := 1) (b := 32) h1 s1 hg s4 (by decide) (by decide) (by decide)
  obtain ⟨m1, m2⟩ := mul_gr .f32 (i := -1) (j := -2) (a := 1) (b := 32) h1 d1 hg d4 (by decide) (by decide) (by decide)
  have p3 : rv single (fmul .f32 1056964608 (fadd .f32 a b)) = 1 / 2 * (rv single a + rv single b) := by
    have e : rv single (fmul .f32 1056964608 (fadd .f32 a b)) = rv single 1056964608 * rv single (fadd .f32 a b) := p2
    rw [e, h2, s3]
  have m3 : rv single (fmul .f32 1056964608 (fsub .f32 a b)) = 1 / 2 * (rv single a - rv single b) := by
    have e : rv single (fmul .f32 1056964608 (fsub .f32 a b)) = rv single 1056964608 * rv single (fsub .f32 a b) := m2
    rw [e, h2, d3]
  have p4 : Gr (-3) 32 (rv single (fmul .f32 1056964608 (fadd .f32 a b))) := by
    have e : rv single (fmul .f32 1056964608 (fadd .f32 a b)) = rv single 1056964608 * rv single (fadd .f32 a b) := p2
    rw [e]; exact hg.mul s4
  have m4 : Gr (-3) 32 (rv single (fmul .f32 1056964608 (fsub .f32 a b))) := by
    have e : rv single (fmul .f32 1056964608 (fsub .f32 a b)) = rv single 1056964608 * rv single (fsub .f32 a b) := m2
    rw [e]; exact hg.mul d4
  generalize fmul .f32 1056964608 (fadd .f32 a b) = S at *
  generalize fmul .f32 1056964608 (fsub .f32 a b) = D at *
  obtain ⟨r1, r2⟩ := add_gr .f32 p1 m1 p4 m4 (by decide) (by decide) (by decide)
  obtain ⟨t1, t2⟩ := sub_gr .f32 p1 m1 p4 m4 (by decide) (by decide) (by decide)
  refine ⟨⟨p1, m1⟩, ⟨r1, ?_⟩, ⟨t1, ?_⟩⟩
  · have e : rv single (fadd .f32 S D) = rv single S + rv single D := r2
    show rv single (fadd .f32 S D) = rv single a
    rw [e, p3, m3]; grind
  · have e : rv single (fsub .f32 S D) = rv single S - rv single D := t2
    show rv single (fsub .f32 S D) = rv single b
    rw [e, p3, m3]; grind
theorem backs_get (xs ys : List Nat) (d : Nat) : ∀ (n i : Nat), i < n → (backsM xs ys n).getD (2 * i) d = fadd .f32 (xs.getD i 0) (ys.getD i 0) ∧ (backsM xs ys n).getD (2 * i + 1) d = fsub .f32 (xs.getD i 0) (ys.getD i 0)
  | 0, i, h => absurd h (by omega)
  | n + 1, i, h => by
    rw [backs_next]
    have hl := backs_len xs ys n
    by_cases hi : i < n
    · obtain ⟨h1, h2⟩ := backs_get xs ys d n i hi
      simp only [List.getD] at h1 h2 ⊢
      rw [List.getElem?_append_left (by omega), List.getElem?_append_left (by omega)]
      exact ⟨h1, h2⟩
    · have : i = n := by omega
      subst this
      simp only [List.getD]
      rw [List.getElem?_append_right (by omega), List.getElem?_append_right (by omega), hl, Nat.sub_self, Nat.add_sub_cancel_left]
      exact ⟨rfl, rfl⟩
theorem wave_all {Y : List Nat} (hq : ∀ i, i < Y.length → Qx (Y.getD i 0)) (he : Y.length % 2 = 0) (h1 : 1 ≤ Y.length) (h2 : Y.length ≤ 96) :
    swOk Y = true ∧ backOkM (swM Y) (swS Y) = true ∧ (backsM (swM Y) (swS Y) (swM Y).length).length = Y.length ∧ ∀ i, i < Y.length → sf ((backsM (swM Y) (swS Y) (swM Y).length).getD i 0) ∧ sv ((backsM (swM Y) (swS Y) (swM Y).length).getD i 0) = sv (Y.getD i 0) := by
  have hlM : (swM Y).length = Y.length / 2 := tab_len _ _
  have hlS : (swS Y).length = Y.length / 2 := tab_len _ _
  have hp : ∀ i, i < Y.length / 2 → _ := fun i hi => wave_pair (hq (2 * i) (by omega)) (hq (2 * i + 1) (by omega))
  have gM : ∀ i, i < Y.length / 2 → (swM Y).getD i 0 = fmul .f32 1056964608 (fadd .f32 (Y.getD (2 * i) 0) (Y.getD (2 * i + 1) 0)) := fun i hi => by unfold swM; rw [tab_get _ _ _ _ hi]; rfl
  have gS : ∀ i, i < Y.length / 2 → (swS Y).getD i 0 = fmul .f32 1056964608 (fsub .f32 (Y.getD (2 * i) 0) (Y.getD (2 * i + 1) 0)) := fun i hi => by unfold swS; rw [tab_get _ _ _ _ hi]; rfl
  have fM : ∀ i, i < (swM Y).length → sf ((swM Y).getD i 0) := fun i hi => by rw [hlM] at hi; rw [gM i hi]; exact (hp i hi).1.1
  have fS : ∀ i, i < (swS Y).length → sf ((swS Y).getD i 0) := fun i hi => by rw [hlS] at hi; rw [gS i hi]; exact (hp i hi).1.2
  have hlen : (backsM (swM Y) (swS Y) (swM Y).length).length = Y.length := by rw [backs_len, hlM]; omega
  have hall : ∀ i, i < Y.length → sf ((backsM (swM Y) (swS Y) (swM Y).length).getD i 0) ∧ sv ((backsM (swM Y) (swS Y) (swM Y).length).getD i 0) = sv (Y.getD i 0) := by
    intro i hi
    obtain ⟨b1, b2⟩ := backs_get (swM Y) (swS Y) 0 (swM Y).length (i / 2) (by omega)
    rw [gM (i / 2) (by omega), gS (i / 2) (by omega)] at b1 b2
    have hpp := hp (i / 2) (by omega)
    rcases Nat.mod_two_eq_zero_or_one i with h | h
    · have e : 2 * (i / 2) = i := by omega
      rw [e] at b1 hpp
      rw [b1]
      rw [e] at *
      exact hpp.2.1
    · have e : 2 * (i / 2) + 1 = i := by omega
      rw [e] at b2 hpp
      rw [b2]
      rw [e] at *
      exact hpp.2.2
  have hY := series_of h1 h2 (fun i hi => (hq i hi).1)
  have hM := series_of (xs := swM Y) (by omega) (by omega) fM
  have hS := series_of (xs := swS Y) (by omega) (by omega) fS
  refine ⟨?_, ?_, hlen, hall⟩
  · unfold swOk
    rw [hY, finAll_of fM, finAll_of fS]
    simp [he]
  · unfold backOkM twoM
    rw [hM, hS, finAll_of (fun i hi => (hall i (by omega)).1)]
    simp [hlM, hlS]; omega

/-! ### the best period -/
theorem bp_least {A : List Nat} {low : Int} {n j0 : Nat} (h1 : 1 ≤ low) (hf : ∀ j, j < n → sf (bpSum A (low + j)) ∧ 0 ≤ sv (bpSum A (low + j))) (hj : j0 < n) (h0 : sv (bpSum A (low + j0)) = 0) : sf (bpAt A low n).2 ∧ sv (bpAt A low n).2 = 0 := by
  have gen : ∀ m, m ≤ n → 1 ≤ m → (bpAt A low m).1 ≠ 0 ∧ sf (bpAt A low m).2 ∧ 0 ≤ sv (bpAt A low m).2 ∧ (j0 < m → sv (bpAt A low m).2 ≤ 0) := by
    intro m
    induction m with
    | zero => intro _ h; omega
    | succ m ih =>
      intro hm _
      obtain ⟨f1, f2⟩ := hf m (by omega)
      have new : low + (m : Int) ≠ 0 ∧ sf (bpSum A (low + m)) ∧ 0 ≤ sv (bpSum A (low + m)) := ⟨by omega, f1, f2⟩
      unfold bpAt
      by_cases h0m : m = 0
      · subst h0m
        have e : ((bpAt A low 0).1 == 0) = true := rfl
        rw [e, Bool.true_or, if_pos rfl]
        refine ⟨new.1, new.2.1, new.2.2, fun hlt => ?_⟩
        have : j0 = 0 := by omega
        subst this
        show sv (bpSum A (low + ((0 : Nat) : Int))) ≤ 0
        rw [h0]; exact Rat.le_refl
      · obtain ⟨i1, i2, i3, i4⟩ := ih (by omega) (by omega)
        have e : ((bpAt A low m).1 == 0) = false := by simpa using i1
        rw [e, Bool.false_or, flt_rv (k := .f32) f1 i2]
        by_cases hlt : rv single (bpSum A (low + m)) < rv single (bpAt A low m).2
        · rw [if_pos (by exact decide_eq_true hlt)]
          refine ⟨new.1, new.2.1, new.2.2, fun hj0 => ?_⟩
          show rv single (bpSum A (low + m)) ≤ 0
          by_cases hjm : j0 < m
          · have := i4 hjm
            have : rv single (bpAt A low m).2 ≤ 0 := this
            grind
          · have : j0 = m := by omega
            subst this
            have h0 : rv single (bpSum A (low + j0)) = 0 := h0
            grind
        · rw [if_neg (by rw [decide_eq_true_eq]; exact hlt)]
          refine ⟨i1, i2, i3, fun hj0 => ?_⟩
          by_cases hjm : j0 < m
          · exact i4 hjm
          · have : j0 = m := by omega
            subst this
            have h0 : rv single (bpSum A (low + j0)) = 0 := h0
            show rv single (bpAt A low j0).2 ≤ 0
            grind
  obtain ⟨_, g2, g3, g4⟩ := gen n (Nat.le_refl _) (by omega)
  have := g4 hj
  exact ⟨g2, by grind⟩
theorem byt_of {cs : List Int} (h : Cont.rng (.i .u8 cs)) : Byt cs ∧ cs.length ≤ maxLen := by
  refine ⟨fun i => ?_, h.1⟩
  by_cases hi : i < cs.length
  · have := h.2 (cs.getD i 0) (by simp [List.getD, hi])
    exact this
  · have : cs.getD i 0 = 0 := by simp [List.getD, List.getElem?_eq_none (Nat.le_of_not_lt hi)]
    rw [this]; omega
theorem bt_le {cs : List Int} (hc : Byt cs) {i n : Int} (hi : 0 ≤ i) (hn : 1 < n) : 0 ≤ btM cs i n ∧ btM cs i n < n := by
  unfold btM
  rw [if_neg (by omega)]
  split
  · exact tmod_byte (hc _).1 (by omega)
  · exact tmod_byte (by omega) (by omega)
theorem k_laws_b10Long {P : Program} {f : FuncId} (h : Is_laws_b10Long P f) : C_laws_b10Long P f := by
  intro cs ms
  refine q_laws_b10Long h cs ms ⟨fun h => ?_, fun h => ?_⟩ <;> (show AV.b _ = AV.b _; rw [h]; simp)
theorem k_laws_b10At {P : Program} {f : FuncId} (h : Is_laws_b10At P f) : C_laws_b10At P f := by
  intro cs i n hi hc
  refine q_laws_b10At h cs i n ?_
  have hb := hc i.toNat
  rw [wrap64_id (n := cs.getD i.toNat 0) (by omega) (by omega), wrap64_id (n := i * 37) (by omega) (by omega), wrap64_id (n := i * 37 + 11) (by omega) (by omega)]
  unfold btM
  refine ⟨fun h => ?_, fun h => ⟨fun g => ⟨?_, fun _ => ⟨trivial, fun _ => ⟨?_, fun _ => ?_⟩⟩⟩, fun g => ⟨?_, fun _ => ?_⟩⟩⟩
  · have h := of_decide_eq_true h
    show AV.i _ _ = AV.i _ _
    rw [if_pos h]
  · have g := of_decide_eq_true g
    exact ⟨hi.1, g⟩
  · have h := of_decide_eq_false h; omega
  · have h := of_decide_eq_false h
    have g := of_decide_eq_true g
    show AV.i _ _ = AV.i _ _
    rw [if_neg h, if_pos g]
  · have h := of_decide_eq_false h; omega
  · have h := of_decide_eq_false h
    have g := of_decide_eq_false g
    show AV.i _ _ = AV.i _ _
    rw [if_neg h, if_neg g]
theorem fd_all {cs ms : List Int} (hc : Byt cs) (hm : Byt ms) : (2 ≤ fdP ms ∧ fdP ms ≤ 5) ∧ (fdX cs ms).length = (fdP ms).toNat ∧ (∀ i, i < (fdP ms).toNat → Qx ((fdX cs ms).getD i 0)) ∧ (fdA cs ms).length = 4 * (fdP ms).toNat ∧ (∀ i, i < (fdA cs ms).length → Qx ((fdA cs ms).getD i 0)) ∧
    (fdM cs ms).length = (fdP ms).toNat ∧ (∀ i, i < (fdM cs ms).length → sf ((fdM cs ms).getD i 0) ∧ sv ((fdM cs ms).getD i 0) = sv ((fdX cs ms).getD i 0)) ∧ sf (fdL cs ms) ∧ sv (fdL cs ms) = 0 ∧ foldOk (fdA cs ms) (fdP ms) = true ∧
    (∀ w : Int, 1 ≤ w ∧ w ≤ 8 → bpOk (fdA cs ms) 2 (2 * fdP ms) w = true) ∧ sf (fdB cs ms).2 ∧ sv (fdB cs ms).2 = 0 := by
  have hp : 2 ≤ fdP ms ∧ fdP ms ≤ 5 := by have := bt_le hm (i := 0) (n := 4) (by omega) (by omega); unfold fdP; omega
  have hX : (fdX cs ms).length = (fdP ms).toNat := s3L_len _ _ _ _
  have qX : ∀ i, i < (fdP ms).toNat → Qx ((fdX cs ms).getD i 0) := fun i hi => s3L_q hc 0 0 _ i hi
  have hA : (fdA cs ms).length = 4 * (fdP ms).toNat := tab_len _ _
  have qA : ∀ i, i < (fdA cs ms).length → Qx ((fdA cs ms).getD i 0) := by
    intro i hi
    rw [hA] at hi
    unfold fdA
    rw [tab_get _ _ _ _ hi]
    exact qX _ (Nat.mod_lt _ (by omega))
  have hM : (fdM cs ms).length = (fdP ms).toNat := fold_len _ _
  have gM : ∀ i, i < (fdM cs ms).length → sf ((fdM cs ms).getD i 0) ∧ sv ((fdM cs ms).getD i 0) = sv ((fdX cs ms).getD i 0) := fun i hi => own_fold (by omega) hX qX i (by omega)
  have gL : sf (fdL cs ms) ∧ sv (fdL cs ms) = 0 := own_left (by omega) hX qX hM (fun i hi => gM i (by omega))
  have hser : seriesM (fdA cs ms) = true := series_of (by omega) (by omega) (fun i hi => (qA i hi).1)
  have ok : ∀ q : Int, 1 ≤ q → q ≤ (fdA cs ms).length → foldOk (fdA cs ms) q = true ∧ sf (bpSum (fdA cs ms) q) ∧ 0 ≤ sv (bpSum (fdA cs ms) q) := by
    intro q h1 h2
    have hl : (foldM (fdA cs ms) q.toNat).length = q.toNat := fold_len _ _
    have hn := fun i hi => fold_near qA (per := q.toNat) (by omega) (by omega) (by omega) i hi
    have hle := left_near qA (by omega) (ms := foldM (fdA cs ms) q.toNat) (by omega) (fun i hi => hn i (by omega))
    refine ⟨?_, hle⟩
    unfold foldOk
    rw [hser, finAll_of (fun i hi => (hn i (by omega)).1), (finM_sf _).2 hle.1, in_true ⟨h1, h2⟩]
    rfl
  have hbf : bpFin (fdA cs ms) 2 (2 * fdP ms) = true := by
    unfold bpFin
    refine allN_iff.2 (fun j hj => ?_)
    unfold bpN at hj
    exact (ok (2 + j) (by omega) (by omega)).1
  refine ⟨hp, hX, qX, hA, qA, hM, gM, gL.1, gL.2, (ok _ (by omega) (by omega)).1, fun w hw => ?_, ?_⟩
  · unfold bpOk
    rw [hser, hbf, in_true (show (2 : Int) ≤ 2 ∧ (2 : Int) ≤ 2 * fdP ms by omega), in_true hw]
    simp [hA]; omega
  · have hbl := bp_least (A := fdA cs ms) (low := 2) (n := bpN 2 (2 * fdP ms)) (j0 := (fdP ms - 2).toNat) (by omega) (fun j hj => by unfold bpN at hj; exact (ok (2 + j) (by omega) (by omega)).2) (by unfold bpN; omega)
      (by rw [show (2 : Int) + ((fdP ms - 2).toNat : Int) = fdP ms by omega]; exact gL.2)
    exact hbl
end Go.Proofs.LV
