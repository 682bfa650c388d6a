/- Texts that belong together. -/
import Derived.Test.YtdffgjembkanoaaLvFnFFX
import Derived.Test.YtdffgjembkanoaaLvAbsX
import Derived.Test.YtdffgjembkanoaaLvFnNNX
import Derived.Test.YtdffgjembkanoaaLvRatS
import Derived.Test.YtdffgjembkanoaaLvEv
namespace Go.Proofs.LV
open Go Ieee
set_option linter.unusedVariables false
set_option linter.unusedSimpArgs false

open Go.IntKind (wrap)
-- FN laws_b10Long
def ps_laws_b10Long : List Nat := [0, 1, 4]
def b_laws_b10Long : VCode :=
 (.seq
 (.region false [
 ⟨some 4, .mv, [.k (.b false)], none⟩])
 (.seq
 (.region false [
 ⟨some 5, .mv, [.t 0], none⟩,
 ⟨some 6, .len, [.t 5], none⟩,
 ⟨some 7, (.bin .gtr), [.t 6, .k (.i .i64 1048576)], none⟩,
 ⟨some 8, .mv, [.t 7], none⟩,
 ⟨some 9, .mv, [.t 1], some (8, false)⟩,
 ⟨some 10, .len, [.t 9], some (8, false)⟩,
 ⟨some 11, (.bin .gtr), [.t 10, .k (.i .i64 1048576)], some (8, false)⟩,
 ⟨some 12, .pick, [.t 8, .k (.b true), .t 11], none⟩,
 ⟨some 4, .mv, [.t 12], none⟩])
 .ret))

abbrev Is_laws_b10Long (P : Program) (g_f : FuncId) : Prop := FnIs P g_f 13 [.t 4] (b_laws_b10Long)

abbrev C_laws_b10Long (P : Program) (g_f : FuncId) : Prop := ∀ (cs : List Int) (ms : List Int), VCall P g_f [PU [0] cs, PU [1] ms] (.b (decide ((cs.length : Int) > 1048576) || decide ((ms.length : Int) > 1048576)))
def oc1_laws_b10Long (as : List AV) : T AV := match as with | [.sl _ _ (.i _ cs), .sl _ _ (.i _ ms)] => .leaf (.b (decide ((cs.length : Int) > 1048576) || decide ((ms.length : Int) > 1048576))) | _ => .fail



theorem q_laws_b10Long {P : Program} {g_f : FuncId} (h_ : Is_laws_b10Long P g_f) (cs : List Int) (ms : List Int) (ht : T.ok (fun x_ => x_ = .b (decide ((cs.length : Int) > 1048576) || decide ((ms.length : Int) > 1048576))) (
 T.ite (decide ((↑(List.length cs) : Int) > 1048576)) (T.leaf (AV.b true)) (T.leaf (AV.b (decide ((↑(List.length ms) : Int) > 1048576)))))) :
 VCall P g_f [PU [0] cs, PU [1] ms] (.b (decide ((cs.length : Int) > 1048576) || decide ((ms.length : Int) > 1048576))) := h_.call_of ps_laws_b10Long ⟨fun _ _ => .fail, fun _ _ => none⟩ (by kernel_rfl) ht

-- END laws_b10Long

def btM (cs : List Int) (i n : Int) : Int := if n ≤ 1 then 0 else if i < cs.length then (cs.getD i.toNat 0).tmod n else (i * 37 + 11).tmod n
-- FN laws_b10At
def ps_laws_b10At : List Nat := [0, 1, 2, 6, 8, 12]
def b_laws_b10At : VCode :=
 (.seq
 (.region false [
 ⟨some 6, .mv, [.k (.i .i64 0)], none⟩])
 (.seq
 (.seq
 (.region false [
 ⟨some 7, .mv, [.t 2], none⟩,
 ⟨some 8, (.bin .leq), [.t 7, .k (.i .i64 1)], none⟩])
 (.cond (.t 8)
 (.seq
 (.region false [
 ⟨some 6, .mv, [.k (.i .i64 0)], none⟩])
 .ret)
 .skip))
 (.seq
 (.seq
 (.region false [
 ⟨some 9, .mv, [.t 1], none⟩,
 ⟨some 10, .mv, [.t 0], none⟩,
 ⟨some 11, .len, [.t 10], none⟩,
 ⟨some 12, (.bin .lss), [.t 9, .t 11], none⟩])
 (.cond (.t 12)
 (.seq
 (.region false [
 ⟨some 13, .mv, [.t 0], none⟩,
 ⟨some 14, .mv, [.t 1], none⟩,
 ⟨some 15, .iaddr, [.t 13, .t 14], none⟩,
 ⟨some 16, .load, [.t 15], none⟩,
 ⟨some 17, (.convI .i64), [.t 16], none⟩,
 ⟨some 18, .mv, [.t 2], none⟩,
 ⟨some 19, (.bin .rem), [.t 17, .t 18], none⟩,
 ⟨some 6, .mv, [.t 19], none⟩])
 .ret)
 .skip))
 (.seq
 (.region false [
 ⟨some 20, .mv, [.t 1], none⟩,
 ⟨some 21, (.bin .mul), [.t 20, .k (.i .i64 37)], none⟩,
 ⟨some 22, (.bin .add), [.t 21, .k (.i .i64 11)], none⟩,
 ⟨some 23, .mv, [.t 2], none⟩,
 ⟨some 24, (.bin .rem), [.t 22, .t 23], none⟩,
 ⟨some 6, .mv, [.t 24], none⟩])
 .ret))))

abbrev Is_laws_b10At (P : Program) (g_f : FuncId) : Prop := FnIs P g_f 25 [.t 6] (b_laws_b10At)

abbrev C_laws_b10At (P : Program) (g_f : FuncId) : Prop := ∀ (cs : List Int) (i : Int) (n : Int) (hi : 0 ≤ i ∧ i ≤ 1000000) (hc : Byt cs), VCall P g_f [PU [0] cs, .i .i64 i, .i .i64 n] (.i .i64 (btM cs i n))
def oc1_laws_b10At (as : List AV) : T AV := match as with | [.sl _ _ (.i _ cs), .i .i64 i, .i .i64 n] => .leaf (.i .i64 (btM cs i n)) | _ => .fail



theorem q_laws_b10At {P : Program} {g_f : FuncId} (h_ : Is_laws_b10At P g_f) (cs : List Int) (i : Int) (n : Int) (ht : T.ok (fun x_ => x_ = .i .i64 (btM cs i n)) (
 T.ite (decide (n ≤ 1)) (T.leaf (AV.i .i64 0))
 (T.ite (decide (i < (↑(List.length cs) : Int)))
 (T.ob (0 ≤ i ∧ i < (↑(List.length cs) : Int)) (T.ob True (T.ob (n ≠ 0) (T.leaf (AV.i .i64 (Int.tmod (wrap .i64 (List.getD cs (Int.toNat i) 0)) n))))))
 (T.ob (n ≠ 0) (T.leaf (AV.i .i64 (Int.tmod (wrap .i64 (wrap .i64 (i * 37) + 11)) n))))))) :
 VCall P g_f [PU [0] cs, .i .i64 i, .i .i64 n] (.i .i64 (btM cs i n)) := h_.call_of ps_laws_b10At ⟨fun _ _ => .fail, fun _ _ => none⟩ (by kernel_rfl) ht

-- END laws_b10At

-- FN spec_SameNumber
def ps_spec_SameNumber : List Nat := [0, 1, 4]
def b_spec_SameNumber (gq0 : FuncId) : VCode :=
 (.seq
 (.region false [
 ⟨some 4, .mv, [.k (.b false)], none⟩])
 (.seq
 (.region false [
 ⟨some 5, .mv, [.t 0], none⟩,
 ⟨some 6, .mv, [.t 1], none⟩,
 ⟨some 7, (.call gq0), [.t 5, .t 6], none⟩,
 ⟨some 4, .mv, [.t 7], none⟩])
 .ret))

abbrev Is_spec_SameNumber (P : Program) (g_f : FuncId) (gq0 : FuncId) : Prop := FnIs P g_f 8 [.t 4] (b_spec_SameNumber gq0)

abbrev C_spec_SameNumber (P : Program) (g_f : FuncId) : Prop := ∀ (x : Nat) (y : Nat), VCall P g_f [.f .f32 x, .f .f32 y] (.b (x == y))
def oc1_spec_SameNumber (as : List AV) : T AV := match as with | [.f .f32 x, .f .f32 y] => .leaf (.b (x == y)) | _ => .fail
def oc_spec_SameNumber (x : Nat) (y : Nat) (d : Nat) (as : List AV) : T AV := match d with | 7 => oc1_spec_l01Same as | _ => .fail



theorem q_spec_SameNumber {P : Program} {g_f : FuncId} {gq0 : FuncId} (h_ : Is_spec_SameNumber P g_f gq0) (x : Nat) (y : Nat) (ht : T.ok (fun x_ => x_ = .b (x == y)) (
 T.ob ((VCall P) gq0 [AV.f .f32 x, AV.f .f32 y] (AV.b (x == y))) (T.leaf (AV.b (x == y))))) :
 VCall P g_f [.f .f32 x, .f .f32 y] (.b (x == y)) := h_.call_of ps_spec_SameNumber ⟨oc_spec_SameNumber x y, fun _ _ => none⟩ (by kernel_rfl) ht

-- END spec_SameNumber

/-! ### the numbers that are drawn -/
theorem four_rv : sf 1082130432 ∧ sv 1082130432 = 4 := by
  have h : fnt single 1082130432 := by unfold fnt; decide
  exact ⟨h, lit_neg h (m := 2 ^ 23) (n := 21) (by decide +kernel) (by decide +kernel)⟩
theorem quarter : (2 : Rat) ^ (-2 : Int) = 1 / 4 := zp_neg 2 (1 / 4) (by decide +kernel)
/-- one of the small numbers: quarters up to 4 -/
def Qx (x : Nat) : Prop := sf x ∧ Gr (-2) 16 (sv x)
theorem s3F_q {k : Int} (hk : 0 ≤ k ∧ k ≤ 32) : Qx (s3F k) := by
  obtain ⟨f1, f2⟩ := fofi_rv .f32 (n := k - 16) (by show (k - 16).natAbs < 2 ^ 24; omega)
  have hg : Gr (-2) 16 (((k - 16 : Int) : Rat) * 2 ^ (-2 : Int)) := ⟨k - 16, rfl, by omega⟩
  have h4 := four_rv
  have := div_gr .f32 (q := ((k - 16 : Int) : Rat) * 2 ^ (-2 : Int)) f1 h4.1 (by show rv single 1082130432 ≠ 0; rw [show rv single 1082130432 = 4 from h4.2]; decide)
    (by show _ * rv single 1082130432 = _; rw [show rv single 1082130432 = 4 from h4.2, f2, quarter]; grind) hg (by decide) (by decide) (by decide)
  refine ⟨this.1, ?_⟩
  show Gr (-2) 16 (rv single (fdiv .f32 _ _))
  rw [show rv single (fdiv .f32 (fofi .f32 (k - 16)) 1082130432) = _ from this.2]
  exact hg
theorem s3L_len (cs : List Int) (a s n : Int) : (s3L cs a s n).length = n.toNat := tab_len _ _
theorem s3L_q {cs : List Int} (hc : Byt cs) (a s n : Int) (i : Nat) (hi : i < n.toNat) : Qx ((s3L cs a s n).getD i 0) := by
  unfold s3L
  rw [tab_get _ _ _ _ hi]
  have hb := srV_le hc (a + i) (sdN cs a s i)
  have ht := tmod_byte (n := 33) hb.1 (by omega)
  exact s3F_q (by show 0 ≤ (srV cs (a + i) (sdN cs a s i)).tmod 33 ∧ _; unfold vlN; omega)
theorem q_bound {x : Nat} (h : Qx x) : -4 ≤ sv x ∧ sv x ≤ 4 := gr_bound (B := 4) h.2 (by rw [quarter]; decide +kernel)
theorem fne_of {x y : Nat} (hx : sf x) (hy : sf y) (h : sv x = sv y) : fne .f32 x y = false := by
  rw [fne_eq, feq_rv (k := .f32) hx hy]
  simp only [Bool.not_eq_false', decide_eq_true_eq]
  exact h
theorem series_of {xs : List Nat} (h1 : 1 ≤ xs.length) (h2 : xs.length ≤ 96) (h : ∀ i, i < xs.length → sf (xs.getD i 0)) : seriesM xs = true := by
  unfold seriesM
  rw [finAll_of h]
  simp; omega
/-! ### folded at any period -/
/-! ### folded at its own period -/
/-! ### waves -/
/-! ### the best period -/
theorem byt_of {cs : List Int} (h : Cont.rng (.i .u8 cs)) : Byt cs ∧ cs.length ≤ maxLen := by
  refine ⟨fun i => ?_, h.1⟩
  by_cases hi : i < cs.length
  · have := h.2 (cs.getD i 0) (by simp [List.getD, hi])
    exact this
  · have : cs.getD i 0 = 0 := by simp [List.getD, List.getElem?_eq_none (Nat.le_of_not_lt hi)]
    rw [this]; omega
theorem bt_le {cs : List Int} (hc : Byt cs) {i n : Int} (hi : 0 ≤ i) (hn : 1 < n) : 0 ≤ btM cs i n ∧ btM cs i n < n := by
  unfold btM
  rw [if_neg (by omega)]
  split
  · exact tmod_byte (hc _).1 (by omega)
  · exact tmod_byte (by omega) (by omega)
theorem k_laws_b10Long {P : Program} {f : FuncId} (h : Is_laws_b10Long P f) : C_laws_b10Long P f := by
  intro cs ms
  refine q_laws_b10Long h cs ms ⟨fun h => ?_, fun h => ?_⟩ <;> (show AV.b _ = AV.b _; rw [h]; simp)
theorem k_laws_b10At {P : Program} {f : FuncId} (h : Is_laws_b10At P f) : C_laws_b10At P f := by
  intro cs i n hi hc
  refine q_laws_b10At h cs i n ?_
  have hb := hc i.toNat
  rw [wrap64_id (n := cs.getD i.toNat 0) (by omega) (by omega), wrap64_id (n := i * 37) (by omega) (by omega), wrap64_id (n := i * 37 + 11) (by omega) (by omega)]
  unfold btM
  refine ⟨fun h => ?_, fun h => ⟨fun g => ⟨?_, fun _ => ⟨trivial, fun _ => ⟨?_, fun _ => ?_⟩⟩⟩, fun g => ⟨?_, fun _ => ?_⟩⟩⟩
  · have h := of_decide_eq_true h
    show AV.i _ _ = AV.i _ _
    rw [if_pos h]
  · have g := of_decide_eq_true g
    exact ⟨hi.1, g⟩
  · have h := of_decide_eq_false h; omega
  · have h := of_decide_eq_false h
    have g := of_decide_eq_true g
    show AV.i _ _ = AV.i _ _
    rw [if_neg h, if_pos g]
  · have h := of_decide_eq_false h; omega
  · have h := of_decide_eq_false h
    have g := of_decide_eq_false g
    show AV.i _ _ = AV.i _ _
    rw [if_neg h, if_neg g]
theorem k_spec_SameNumber {P : Program} {f g_spec_l01Same : FuncId} (h : Is_spec_SameNumber P f g_spec_l01Same) (c1 : C_spec_l01Same P g_spec_l01Same) : C_spec_SameNumber P f := by
  intro x y
  refine q_spec_SameNumber h x y ?_
  repeat' (first | with_reducible refine T.ok_ob ?_ (fun _ => ?_) | with_reducible refine T.ok_ite (fun _ => ?_) (fun _ => ?_) | with_reducible refine T.ok_leaf ?_)
  all_goals first | with_reducible rfl | with_reducible assumption | with_reducible exact c1 _ _ | contradiction | exact fconvOk_32_64 _ | assumption | exact rfl | (simp_all []; done) | (simp_all [T.ok]; omega)

end Go.Proofs.LV

namespace Go.Proofs.LV
open Go
set_option linter.unusedVariables false

/-- the first n members of a row of statements -/
def front : Nat → VCode → VCode
  | 0, _ => .skip
  | n + 1, .seq a b => .seq a (front n b)
  | _ + 1, _ => .skip
/-- what follows them -/
def rest : Nat → VCode → VCode
  | 0, c => c
  | n + 1, .seq _ b => rest n b
  | _ + 1, c => c
/-- the tree of a piece: it goes on (none) or returns (some) -/
def evS (VC : FuncId → List AV → AV → Prop) (ps : List Nat) (rs : List RV) (r0 : AV) (O : Orc) (c : VCode) (σ : Env) : T (Option AV × Env) :=
  evC VC ps O c σ [] fun e σ _ => match e with
    | .normal => .leaf (none, σ)
    | .exit _ => .fail
    | .ret => match outRs rs σ with | some v => .leaf (some (AV.fin r0 v), []) | none => .fail
theorem evS_of {VC : FuncId → List AV → AV → Prop} {ps : List Nat} {rs : List RV} {r0 : AV} {O : Orc} {c : VCode} {σ : Env} {t : T (Option AV × Env)} {Q : Option AV × Env → Prop}
    (e : evS VC ps rs r0 O c σ = t) (ht : t.ok Q) : (evS VC ps rs r0 O c σ).ok Q := e ▸ ht

theorem front_ok {α : Type} {VC : FuncId → List AV → AV → Prop} {O : Orc} {Q : α → Prop} {ps : List Nat} : ∀ (n : Nat) (c : VCode) {σ : Env} {kn : Kn} {k : Ex → Env → Kn → T α}, (evC VC ps O (front n c) σ kn k).ok Q →
    ∃ e σ' kn', (k e σ' kn').ok Q ∧ (e = .normal → ∀ e2 σ2, Exec VC ps (rest n c) σ' e2 σ2 → Exec VC ps c σ e2 σ2) ∧ (e ≠ .normal → Exec VC ps c σ e σ')
  | 0, c, σ, kn, k, h => ⟨.normal, σ, kn, h, fun _ _ _ h => h, fun h => absurd rfl h⟩
  | n + 1, .seq a b, σ, kn, k, h => by
    unfold front evC at h
    obtain ⟨e, σ1, kn1, h1, h2⟩ := evC_ok h
    cases e with
    | normal =>
      obtain ⟨e', σ2, kn2, h3, h4, h5⟩ := front_ok n b h2
      exact ⟨e', σ2, kn2, h3, fun he e2 σ3 hx => .seq h1 (h4 he e2 σ3 hx), fun he => .seq h1 (h5 he)⟩
    | exit id => exact ⟨.exit id, σ1, kn1, h2, (fun h => by cases h), fun _ => .seqX h1 (by simp)⟩
    | ret => exact ⟨.ret, σ1, kn1, h2, (fun h => by cases h), fun _ => .seqX h1 (by simp)⟩
  | n + 1, .skip, σ, kn, k, h => ⟨.normal, σ, kn, h, fun _ _ _ h => h, fun h => absurd rfl h⟩
  | n + 1, .region _ _, σ, kn, k, h => ⟨.normal, σ, kn, h, fun _ _ _ h => h, fun h => absurd rfl h⟩
  | n + 1, .cond _ _ _, σ, kn, k, h => ⟨.normal, σ, kn, h, fun _ _ _ h => h, fun h => absurd rfl h⟩
  | n + 1, .block _ _, σ, kn, k, h => ⟨.normal, σ, kn, h, fun _ _ _ h => h, fun h => absurd rfl h⟩
  | n + 1, .loop _, σ, kn, k, h => ⟨.normal, σ, kn, h, fun _ _ _ h => h, fun h => absurd rfl h⟩
  | n + 1, .exit _, σ, kn, k, h => ⟨.normal, σ, kn, h, fun _ _ _ h => h, fun h => absurd rfl h⟩
  | n + 1, .ret, σ, kn, k, h => ⟨.normal, σ, kn, h, fun _ _ _ h => h, fun h => absurd rfl h⟩
  | n + 1, .bad, σ, kn, k, h => ⟨.normal, σ, kn, h, fun _ _ _ h => h, fun h => absurd rfl h⟩

/-- the code ends with this result -/
def Ends (P : Program) (ps : List Nat) (rs : List RV) (r : AV) (c : VCode) (σ : Env) : Prop :=
  ∃ e σ', Exec (VCall P) ps c σ e σ' ∧ (e = .normal ∨ e = .ret) ∧ ∃ v, outRs rs σ' = some v ∧ AV.fin r v = r

/-- the same; only some slots are handed on -/
def evK (VC : FuncId → List AV → AV → Prop) (ps ks : List Nat) (rs : List RV) (r0 : AV) (O : Orc) (c : VCode) (σ : Env) : T (Option AV × Env) :=
  evC VC ps O c σ [] fun e σ _ => match e with
    | .normal => .leaf (none, σ.clear ks)
    | .exit _ => .fail
    | .ret => match outRs rs σ with | some v => .leaf (some (AV.fin r0 v), []) | none => .fail
theorem evK_of {VC : FuncId → List AV → AV → Prop} {ps ks : List Nat} {rs : List RV} {r0 : AV} {O : Orc} {c : VCode} {σ : Env} {t : T (Option AV × Env)} {Q : Option AV × Env → Prop}
    (e : evK VC ps ks rs r0 O c σ = t) (ht : t.ok Q) : (evK VC ps ks rs r0 O c σ).ok Q := e ▸ ht
theorem T.ok_ifalse {α : Type} {Q : α → Prop} {x y : T α} (h : y.ok Q) : (T.ite false x y).ok Q := ⟨(fun h => nomatch h), fun _ => h⟩
theorem T.ok_go {σ1 : Env} {H : Prop} {r : AV} (h : H) : (T.leaf ((none : Option AV), σ1)).ok (fun x => (x = (none, σ1) ∧ H) ∨ x = (some r, [])) := .inl ⟨rfl, h⟩
theorem T.ok_end {σ1 : Env} {H : Prop} {r a : AV} (h : a = r) : (T.leaf (some a, ([] : Env))).ok (fun x => (x = (none, σ1) ∧ H) ∨ x = (some r, [])) := .inr (by rw [h])
section
variable {P : Program} {ps : List Nat} {rs : List RV} {r : AV} {O : Orc}
theorem cut_stepK {ks : List Nat} {n : Nat} {c : VCode} {σ σ1 : Env} {H : Prop} (h : (evK (VCall P) ps ks rs r O (front n c) σ).ok (fun x => (x = (none, σ1) ∧ H) ∨ x = (some r, [])))
    (h2 : H → Ends P ps rs r (rest n c) σ1) : Ends P ps rs r c σ := by
  unfold evK at h
  obtain ⟨e, σ', kn', hk, hn, hx⟩ := front_ok n c h
  cases e with
  | normal =>
    rcases hk with ⟨hk, hH⟩ | hk
    · cases hk
      obtain ⟨e2, σ2, he, h3⟩ := h2 hH
      exact ⟨e2, σ2, hn rfl e2 σ2 (.forget ks he), h3⟩
    · cases hk
  | exit id => exact hk.elim
  | ret =>
    have hx := hx (by simp)
    simp only at hk
    split at hk
    · rename_i v hv
      rcases hk with ⟨hk, _⟩ | hk
      · cases hk
      · simp only [Prod.mk.injEq, Option.some.injEq, and_true] at hk
        exact ⟨.ret, σ', hx, .inr rfl, v, hv, hk⟩
    · exact hk.elim
theorem cut_last {c : VCode} {σ : Env} (h : (evS (VCall P) ps rs r O c σ).ok (fun x => x = (some r, []))) : Ends P ps rs r c σ := by
  unfold evS at h
  obtain ⟨e, σ', kn', hx, hk⟩ := evC_ok h
  cases e with
  | normal => cases hk
  | exit id => exact hk.elim
  | ret =>
    simp only at hk
    split at hk
    · rename_i v hv
      simp only [T.ok, Prod.mk.injEq, Option.some.injEq, and_true] at hk
      exact ⟨.ret, σ', hx, .inr rfl, v, hv, hk⟩
    · exact hk.elim
theorem FnIs.call_cut {f : FuncId} {nt : Nat} {vc : VCode} (h : FnIs P f nt rs vc) {args : List AV} (ht : Ends P ps rs r vc (startEnv nt args)) (hM : r.isM = false := by rfl) : VCall P f args r := by
  obtain ⟨fn, c0, hf, hb, hc, hr, hn⟩ := h.has
  subst hn
  obtain ⟨e, σ', hrun, he, v, hv, hvr⟩ := ht
  obtain ⟨a1, a2, a3⟩ := outRs_ok hr hv
  exact vcall_of_exec (rs := fn.results.toList) hf hb hc (by simp) (by rw [a1]; exact h.len) h.enter he hrun a2 (by rw [a3]; exact hvr) hM
end
end Go.Proofs.LV

namespace Go.Proofs.LV
open Go Ieee
set_option linter.unusedVariables false

/-! ### sums of fractions -/
theorem sumQ_add (f g : Nat → Rat) : ∀ n, (sumQ n fun i => f i + g i) = sumQ n f + sumQ n g
  | 0 => by show (0 : Rat) = 0 + 0; grind
  | n + 1 => by show (sumQ n fun i => f i + g i) + (f n + g n) = (sumQ n f + f n) + (sumQ n g + g n); rw [sumQ_add f g n]; grind
theorem sumQ_sub (f g : Nat → Rat) : ∀ n, (sumQ n fun i => f i - g i) = sumQ n f - sumQ n g
  | 0 => by show (0 : Rat) = 0 - 0; grind
  | n + 1 => by show (sumQ n fun i => f i - g i) + (f n - g n) = (sumQ n f + f n) - (sumQ n g + g n); rw [sumQ_sub f g n]; grind
theorem sumQ_mul (c : Rat) (f : Nat → Rat) : ∀ n, (sumQ n fun i => c * f i) = c * sumQ n f
  | 0 => by show (0 : Rat) = c * 0; grind
  | n + 1 => by show (sumQ n fun i => c * f i) + c * f n = c * (sumQ n f + f n); rw [sumQ_mul c f n]; grind
theorem nat_rat (n : Nat) : (0 : Rat) ≤ (n : Rat) := by have := nat_le_rat (Nat.zero_le n); simpa using this
theorem nat_succ (n : Nat) : ((n + 1 : Nat) : Rat) = (n : Rat) + 1 := Rat.natCast_add n 1
theorem sumQ_le {f : Nat → Rat} {C : Rat} : ∀ n, (∀ i, i < n → -C ≤ f i ∧ f i ≤ C) → -(n * C) ≤ sumQ n f ∧ sumQ n f ≤ n * C
  | 0, _ => by show -(((0 : Nat) : Rat) * C) ≤ 0 ∧ 0 ≤ ((0 : Nat) : Rat) * C; have : ((0 : Nat) : Rat) = 0 := rfl; rw [this]; grind
  | n + 1, h => by
    have h1 := sumQ_le n (fun i hi => h i (by omega))
    have h2 := h n (by omega)
    rw [nat_succ]
    show _ ≤ sumQ n f + f n ∧ sumQ n f + f n ≤ _
    grind
/-- the sum of the first numbers -/
theorem sumQ_id : ∀ n : Nat, (sumQ n fun i => (i : Rat)) = (n : Rat) * ((n : Rat) - 1) / 2
  | 0 => by show (0 : Rat) = _; have : ((0 : Nat) : Rat) = 0 := rfl; rw [this]; grind
  | n + 1 => by show (sumQ n fun i => (i : Rat)) + (n : Rat) = _; rw [sumQ_id n, nat_succ]; grind
/-- the sum of the first squares -/
theorem sumQ_sq : ∀ n : Nat, (sumQ n fun i => (i : Rat) * i) = (n : Rat) * ((n : Rat) - 1) * (2 * (n : Rat) - 1) / 6
  | 0 => by show (0 : Rat) = _; have : ((0 : Nat) : Rat) = 0 := rfl; rw [this]; grind
  | n + 1 => by show (sumQ n fun i => (i : Rat) * i) + (n : Rat) * n = _; rw [sumQ_sq n, nat_succ]; grind

/-! ### sums from the left of numbers that are nearly told -/
theorem mul_mono {a b c d : Rat} (ha : 0 ≤ a) (hd : 0 ≤ d) (h1 : a ≤ b) (h2 : d ≤ c) : a * d ≤ b * c :=
  Rat.le_trans (Rat.mul_le_mul_of_nonneg_right h1 hd) (Rat.mul_le_mul_of_nonneg_left h2 (Rat.le_trans ha h1))
theorem acc_nearD {g : Nat → Nat} {t : Nat → Rat} {C E N : Rat} (hC : 0 ≤ C) (hE : 0 ≤ E) (n : Nat) (hN : (n : Rat) ≤ N) (hB : (C + E + 1) * N ≤ 10000000)
    (h : ∀ i, i < n → df (g i) ∧ Nr (dv (g i)) (t i) E ∧ -C ≤ t i ∧ t i ≤ C) :
    df (accN (fun i s => fadd .f64 s (g i)) n 0) ∧ Nr (dv (accN (fun i s => fadd .f64 s (g i)) n 0)) (sumQ n t) (n * (E + ((C + E + 1) * N * e53 + eta))) := by
  induction n with
  | zero =>
    refine ⟨zero_df, ?_⟩
    have z : dv (accN (fun i s => fadd .f64 s (g i)) 0 0) = 0 := zero_rv _
    rw [z]
    show Nr 0 0 (((0 : Nat) : Rat) * _)
    have : ((0 : Nat) : Rat) = 0 := rfl
    rw [this]
    exact ⟨by grind, by grind⟩
  | succ n ih =>
    rw [nat_succ] at hN
    obtain ⟨h1, h2⟩ := ih (by grind) (fun i hi => h i (by omega))
    obtain ⟨g1, g2, g3, g4⟩ := h n (by omega)
    have hs := sumQ_le (C := C) n (fun i hi => (h i (by omega)).2.2)
    have e24p : (0 : Rat) ≤ e53 := by decide +kernel
    have hK : (C + E + 1) * N * e53 + eta ≤ 1 := by
      have : (C + E + 1) * N * e53 ≤ 10000000 * e53 := Rat.mul_le_mul_of_nonneg_right hB e24p
      have : (10000000 : Rat) * e53 + eta ≤ 1 := by decide +kernel
      grind
    have hn0 := nat_rat n
    have hK0 : 0 ≤ (C + E + 1) * N * e53 + eta := by
      have a : 0 ≤ (C + E + 1) * N := Rat.mul_nonneg (by grind) (by grind)
      have b := Rat.mul_nonneg a e24p
      have c : (0 : Rat) ≤ eta := by decide +kernel
      grind
    generalize hKK : (C + E + 1) * N * e53 + eta = K at *
    have k1 : (n : Rat) * K ≤ n * 1 := Rat.mul_le_mul_of_nonneg_left hK hn0
    have k2 : ((n : Rat) + 1) * (C + E + 1) ≤ N * (C + E + 1) := Rat.mul_le_mul_of_nonneg_right hN (by grind)
    obtain ⟨u1, u2⟩ := h2
    obtain ⟨v1, v2⟩ := g2
    obtain ⟨s1, s2⟩ := d_add (B := (C + E + 1) * N) h1 g1 (by grind) (by grind) (by grind)
    rw [hKK] at s2
    refine ⟨s1, ?_⟩
    show Nr (dv (fadd .f64 _ (g n))) (sumQ n t + t n) _
    rw [nat_succ]
    obtain ⟨w1, w2⟩ := s2
    exact ⟨by grind, by grind⟩

/-! ### the gap -/
def gapD (a b : Nat) : Nat := if flt .f64 a b = true then fsub .f64 b a else fsub .f64 a b
theorem c01 : df 4576918229304087675 ∧ 9 / 1000 ≤ dv 4576918229304087675 ∧ dv 4576918229304087675 ≤ 1 / 50 := by
  have h : df 4576918229304087675 := by unfold df fnt; decide +kernel
  refine ⟨h, ?_⟩
  have : dv 4576918229304087675 = 5764607523034235 / 576460752303423488 := lit_neg h (m := 5764607523034235) (n := 59) (by decide +kernel) (by decide +kernel)
  rw [this]; decide +kernel
theorem c001 : df 4562254508917369340 ∧ 9 / 10000 ≤ dv 4562254508917369340 ∧ dv 4562254508917369340 ≤ 1 / 500 := by
  have h : df 4562254508917369340 := by unfold df fnt; decide +kernel
  refine ⟨h, ?_⟩
  have : dv 4562254508917369340 = 1152921504606847 / 1152921504606846976 := lit_neg h (m := 4611686018427388) (n := 62) (by decide +kernel) (by decide +kernel)
  rw [this]; decide +kernel
end Go.Proofs.LV

namespace Go.Proofs.LV
open Go Ieee
set_option linter.unusedVariables false
set_option linter.unusedSimpArgs false

-- FN laws_b10Gap
def ps_laws_b10Gap : List Nat := [0, 1, 4, 7]
def b_laws_b10Gap : VCode :=
 (.seq
 (.region false [
 ⟨some 4, .mv, [.k (.f .f64 0)], none⟩])
 (.seq
 (.seq
 (.region false [
 ⟨some 5, .mv, [.t 0], none⟩,
 ⟨some 6, .mv, [.t 1], none⟩,
 ⟨some 7, (.bin .lss), [.t 5, .t 6], none⟩])
 (.cond (.t 7)
 (.seq
 (.region false [
 ⟨some 8, .mv, [.t 1], none⟩,
 ⟨some 9, .mv, [.t 0], none⟩,
 ⟨some 10, (.bin .sub), [.t 8, .t 9], none⟩,
 ⟨some 4, .mv, [.t 10], none⟩])
 .ret)
 .skip))
 (.seq
 (.region false [
 ⟨some 11, .mv, [.t 0], none⟩,
 ⟨some 12, .mv, [.t 1], none⟩,
 ⟨some 13, (.bin .sub), [.t 11, .t 12], none⟩,
 ⟨some 4, .mv, [.t 13], none⟩])
 .ret)))

abbrev Is_laws_b10Gap (P : Program) (g_f : FuncId) : Prop := FnIs P g_f 14 [.t 4] (b_laws_b10Gap)

abbrev C_laws_b10Gap (P : Program) (g_f : FuncId) : Prop := ∀ (a : Nat) (b : Nat), VCall P g_f [.f .f64 a, .f .f64 b] (.f .f64 (gapD a b))
def oc1_laws_b10Gap (as : List AV) : T AV := match as with | [.f .f64 a, .f .f64 b] => .leaf (.f .f64 (gapD a b)) | _ => .fail



theorem q_laws_b10Gap {P : Program} {g_f : FuncId} (h_ : Is_laws_b10Gap P g_f) (a : Nat) (b : Nat) (ht : T.ok (fun x_ => x_ = .f .f64 (gapD a b)) (
 T.ite (flt .f64 a b) (T.leaf (AV.f .f64 (fsub .f64 b a))) (T.leaf (AV.f .f64 (fsub .f64 a b))))) :
 VCall P g_f [.f .f64 a, .f .f64 b] (.f .f64 (gapD a b)) := h_.call_of ps_laws_b10Gap ⟨fun _ _ => .fail, fun _ _ => none⟩ (by kernel_rfl) ht

-- END laws_b10Gap

theorem k_laws_b10Gap {P : Program} {f : FuncId} (h : Is_laws_b10Gap P f) : C_laws_b10Gap P f := by
  intro a b
  refine q_laws_b10Gap h a b ?_
  unfold gapD
  refine T.ok_ite (fun hc => ?_) (fun hc => ?_) <;> simp [T.ok, hc]
/-! ### gaps that are small -/
end Go.Proofs.LV
