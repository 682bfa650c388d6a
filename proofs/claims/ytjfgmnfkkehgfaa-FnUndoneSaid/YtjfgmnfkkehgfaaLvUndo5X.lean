/- Texts that belong together. -/
import Derived.Test.YtjfgmnfkkehgfaaLvFnRRX
import Derived.Test.YtjfgmnfkkehgfaaLvFnPP
import Derived.Test.YtjfgmnfkkehgfaaLvAbsX
import Derived.Test.YtjfgmnfkkehgfaaLvFnK
import Derived.Test.YtjfgmnfkkehgfaaLvEv
namespace Go.Proofs.LV
open Go Ieee
set_option linter.unusedVariables false
set_option linter.unusedSimpArgs false

theorem at_le {cs : List Int} (hc : Byt cs) {i n : Int} (hn : 1 ≤ n) : 0 ≤ atM cs i n ∧ atM cs i n < n := by
  unfold atM
  split
  · omega
  · exact tmod_byte (hc _).1 (by omega)
theorem tab_at' (n : Nat) (f : Nat → Nat) {i : Nat} (h : i < n) : (tab n f).getD i 0 = f i := tab_get _ _ _ _ h
theorem ifAll_fin {xs : List Nat} (h : finAllM xs = true) : ifAllM xs = xs := by unfold ifAllM; rw [if_pos h]
theorem inM_of {a b c : Int} (h : b ≤ a ∧ a ≤ c) : inM a b c = true := by unfold inM; simp; exact h
theorem HL.take {b : Nat} {xs : List Nat} (h : HL b xs) (m : Nat) : HL b (xs.take m) := fun i hi => by
  rw [List.length_take] at hi
  rw [getD_takeN _ _ _ (by omega)]; exact h i (by omega)
theorem jsM_len (xs : List Nat) (a k : Nat) : (jsM xs a k).length = k := tab_len _ _
theorem thM_len (xs : List Nat) (a k : Nat) : (thM xs a k).length = k := tab_len _ _
theorem sum_take (xs : List Nat) : ∀ m, m ≤ xs.length → sumM (xs.take m) = rsS xs m := fun m hm => by
  unfold sumM rsS
  rw [List.length_take, Nat.min_eq_left hm]
  refine accN_congr fun i s hi => ?_
  rw [getD_takeN _ _ _ hi]
theorem mov_at (g : List Nat → Nat) (xs : List Nat) (s : Nat) {i : Nat} (hi : i < xs.length) : (movM g xs s).getD i 0 = g (winM xs s i) := tab_at' _ _ hi
theorem lo_in {xs : List Nat} {b : Nat} (h : HL b xs) (o : Nat) (x0 : Nat) (hx0 : sf x0) {B : Rat} (h0 : -B ≤ sv x0 ∧ sv x0 ≤ B) (hb : ∀ i, i < xs.length → -B ≤ sv (xs.getD i 0) ∧ sv (xs.getD i 0) ≤ B) : ∀ m, o + m ≤ xs.length →
    -B ≤ sv (accN (fun j a => fmin .f32 a (xs.getD (o + j) 0)) m x0) ∧ sv (accN (fun j a => fmin .f32 a (xs.getD (o + j) 0)) m x0) ≤ B
  | 0, _ => h0
  | m + 1, hm => by
    have ih := lo_in h o x0 hx0 h0 hb m (by omega)
    have hz := (lo_le h o x0 hx0 m (by omega)).1
    have e : accN (fun j a => fmin .f32 a (xs.getD (o + j) 0)) (m + 1) x0 = fmin .f32 (accN (fun j a => fmin .f32 a (xs.getD (o + j) 0)) m x0) (xs.getD (o + m) 0) := rfl
    rw [e]
    rcases fmin_mem (fnt_nan (k := .f32) hz) (fnt_nan (k := .f32) (h (o + m) (by omega)).1) with ⟨e, _⟩ | ⟨e, _⟩
    · rw [e]; exact ih
    · rw [e]; exact hb _ (by omega)
theorem hi_in {xs : List Nat} {b : Nat} (h : HL b xs) (o : Nat) (x0 : Nat) (hx0 : sf x0) {B : Rat} (h0 : -B ≤ sv x0 ∧ sv x0 ≤ B) (hb : ∀ i, i < xs.length → -B ≤ sv (xs.getD i 0) ∧ sv (xs.getD i 0) ≤ B) : ∀ m, o + m ≤ xs.length →
    -B ≤ sv (accN (fun j a => fmax .f32 a (xs.getD (o + j) 0)) m x0) ∧ sv (accN (fun j a => fmax .f32 a (xs.getD (o + j) 0)) m x0) ≤ B
  | 0, _ => h0
  | m + 1, hm => by
    have ih := hi_in h o x0 hx0 h0 hb m (by omega)
    have hz := (hi_ge h o x0 hx0 m (by omega)).1
    have e : accN (fun j a => fmax .f32 a (xs.getD (o + j) 0)) (m + 1) x0 = fmax .f32 (accN (fun j a => fmax .f32 a (xs.getD (o + j) 0)) m x0) (xs.getD (o + m) 0) := rfl
    rw [e]
    rcases fmax_mem (fnt_nan (k := .f32) hz) (fnt_nan (k := .f32) (h (o + m) (by omega)).1) with ⟨e, _⟩ | ⟨e, _⟩
    · rw [e]; exact ih
    · rw [e]; exact hb _ (by omega)
theorem not_below {x lo : Nat} (hx : sf x) (hl : sf lo) (h : sv lo - 1 / 10000 ≤ sv x) (hb : -1000000 ≤ sv lo ∧ sv lo ≤ 1000000) : flt .f64 (fconv .f32 .f64 x) (fsub .f64 (fconv .f32 .f64 lo) 4562254508917369340) = false := by
  obtain ⟨x1, x2⟩ := conv_up hx
  obtain ⟨l1, l2⟩ := conv_up hl
  obtain ⟨k1, k2, k3⟩ := c001
  obtain ⟨r1, r2, r3⟩ := d_sub (B := 2000000) l1 k1 (by rw [l2]; grind) (by rw [l2]; grind) (by decide +kernel)
  have hE : 2000000 * e53 + eta ≤ 1 / 10000 := by decide +kernel
  rw [flt_rv (k := .f64) x1 r1]
  refine decide_eq_false ?_
  show ¬ dv _ < dv _
  rw [x2]
  rw [l2] at r2 r3
  grind
theorem not_above {x hi : Nat} (hx : sf x) (hl : sf hi) (h : sv x ≤ sv hi + 1 / 10000) (hb : -1000000 ≤ sv hi ∧ sv hi ≤ 1000000) : fgt .f64 (fconv .f32 .f64 x) (fadd .f64 (fconv .f32 .f64 hi) 4562254508917369340) = false := by
  obtain ⟨x1, x2⟩ := conv_up hx
  obtain ⟨l1, l2⟩ := conv_up hl
  obtain ⟨k1, k2, k3⟩ := c001
  obtain ⟨r1, r2, r3⟩ := d_add (B := 2000000) l1 k1 (by rw [l2]; grind) (by rw [l2]; grind) (by decide +kernel)
  have hE : 2000000 * e53 + eta ≤ 1 / 10000 := by decide +kernel
  rw [fgt_rv (k := .f64) x1 r1]
  refine decide_eq_false ?_
  show ¬ dv _ < dv _
  rw [x2]
  rw [l2] at r2 r3
  grind
theorem flt_not {x y : Nat} (hx : sf x) (hy : sf y) (h : sv y ≤ sv x) : flt .f32 x y = false := by
  rw [flt_rv (k := .f32) hx hy]
  exact decide_eq_false (Rat.not_lt.2 h)
theorem fgt_not {x y : Nat} (hx : sf x) (hy : sf y) (h : sv x ≤ sv y) : fgt .f32 x y = false := by
  rw [fgt_rv (k := .f32) hx hy]
  exact decide_eq_false (Rat.not_lt.2 h)
theorem w_succ {i : Nat} (h : i ≤ 1000) : IntKind.wrap .i64 ((i : Int) + 1) = ((i + 1 : Nat) : Int) := by rw [wrap64_id (by omega) (by omega)]; omega
theorem w_pred {i : Nat} (h0 : 0 < i) (h : i ≤ 1000) : IntKind.wrap .i64 ((i : Int) - 1) = ((i - 1 : Nat) : Int) := by rw [wrap64_id (by omega) (by omega)]; omega
theorem fne_same {x y : Nat} (hx : sf x) (hy : sf y) (h : sv x = sv y) : fne .f32 x y = false := fne_of hx hy h
theorem win_zero {xs : List Nat} {i : Nat} (hi : i < xs.length) : winM xs 0 i = [xs.getD i 0] := by
  unfold winM
  rw [show min xs.length (i + 0 + 1) - (i - 0) = 1 by omega, Nat.sub_zero]
  rw [List.drop_eq_getElem_cons hi, List.take_succ_cons, List.take_zero]
  simp [List.getD, hi]
theorem fmin_val {a b : Nat} (ha : sf a) (hb : sf b) : sf (fmin .f32 a b) ∧ sv (fmin .f32 a b) ≤ sv a ∧ sv (fmin .f32 a b) ≤ sv b ∧ (sv (fmin .f32 a b) = sv a ∨ sv (fmin .f32 a b) = sv b) := by
  have h1 := srung_rv .f32 b a
  have h2 := srung_rv .f32 a b
  rcases fmin_mem (fnt_nan (k := .f32) ha) (fnt_nan (k := .f32) hb) with ⟨e, hs⟩ | ⟨e, hs⟩ <;> rw [e]
  · exact ⟨ha, Rat.le_refl, Rat.not_lt.1 fun hlt => by have := h1.1.2 hlt; omega, .inl rfl⟩
  · exact ⟨hb, Rat.not_lt.1 fun hlt => by have := h2.1.2 hlt; omega, Rat.le_refl, .inr rfl⟩
theorem fmax_val {a b : Nat} (ha : sf a) (hb : sf b) : sf (fmax .f32 a b) ∧ sv a ≤ sv (fmax .f32 a b) ∧ sv b ≤ sv (fmax .f32 a b) ∧ (sv (fmax .f32 a b) = sv a ∨ sv (fmax .f32 a b) = sv b) := by
  have h1 := srung_rv .f32 b a
  have h2 := srung_rv .f32 a b
  rcases fmax_mem (fnt_nan (k := .f32) ha) (fnt_nan (k := .f32) hb) with ⟨e, hs⟩ | ⟨e, hs⟩ <;> rw [e]
  · exact ⟨ha, Rat.le_refl, Rat.not_lt.1 fun hlt => by have := h2.1.2 hlt; omega, .inl rfl⟩
  · exact ⟨hb, Rat.not_lt.1 fun hlt => by have := h1.1.2 hlt; omega, Rat.le_refl, .inr rfl⟩
theorem mega_sf : (sf 1232348160 ∧ sv 1232348160 = 1000000) ∧ (sf 3379831808 ∧ sv 3379831808 = -1000000) := by
  have h1 : fnt single 1232348160 := by unfold fnt; decide +kernel
  have h2 : fnt single 3379831808 := by unfold fnt; decide +kernel
  refine ⟨⟨h1, lit_neg (n := 4) (m := 16000000) h1 (by decide +kernel) (by decide +kernel)⟩, h2, ?_⟩
  have : rv single 3379831808 = sgR true ((16000000 : Nat) * (2 : Rat) ^ (-4 : Int)) := rv_read h2 (by decide +kernel)
  show rv single 3379831808 = _
  rw [this]
  decide +kernel
theorem gaps_at (xs : List Nat) (ks : List Bool) {i : Nat} (hi : i < xs.length) : (gapsM xs ks).getD i 0 = gapM xs ks i := tab_at' _ _ hi
theorem bne_no {a b : Int} (h : a = b) : (a != b) = false := by rw [h]; simp

end Go.Proofs.LV

namespace Go.Proofs.LV
open Go
set_option linter.unusedVariables false

/-- the first n members of a row of statements -/
def front : Nat → VCode → VCode
  | 0, _ => .skip
  | n + 1, .seq a b => .seq a (front n b)
  | _ + 1, _ => .skip
/-- what follows them -/
def rest : Nat → VCode → VCode
  | 0, c => c
  | n + 1, .seq _ b => rest n b
  | _ + 1, c => c
/-- the tree of a piece: it goes on (none) or returns (some) -/
def evS (VC : FuncId → List AV → AV → Prop) (ps : List Nat) (rs : List RV) (r0 : AV) (O : Orc) (c : VCode) (σ : Env) : T (Option AV × Env) :=
  evC VC ps O c σ [] fun e σ _ => match e with
    | .normal => .leaf (none, σ)
    | .exit _ => .fail
    | .ret => match outRs rs σ with | some v => .leaf (some (AV.fin r0 v), []) | none => .fail
theorem evS_of {VC : FuncId → List AV → AV → Prop} {ps : List Nat} {rs : List RV} {r0 : AV} {O : Orc} {c : VCode} {σ : Env} {t : T (Option AV × Env)} {Q : Option AV × Env → Prop}
    (e : evS VC ps rs r0 O c σ = t) (ht : t.ok Q) : (evS VC ps rs r0 O c σ).ok Q := e ▸ ht

theorem front_ok {α : Type} {VC : FuncId → List AV → AV → Prop} {O : Orc} {Q : α → Prop} {ps : List Nat} : ∀ (n : Nat) (c : VCode) {σ : Env} {kn : Kn} {k : Ex → Env → Kn → T α}, (evC VC ps O (front n c) σ kn k).ok Q →
    ∃ e σ' kn', (k e σ' kn').ok Q ∧ (e = .normal → ∀ e2 σ2, Exec VC ps (rest n c) σ' e2 σ2 → Exec VC ps c σ e2 σ2) ∧ (e ≠ .normal → Exec VC ps c σ e σ')
  | 0, c, σ, kn, k, h => ⟨.normal, σ, kn, h, fun _ _ _ h => h, fun h => absurd rfl h⟩
  | n + 1, .seq a b, σ, kn, k, h => by
    unfold front evC at h
    obtain ⟨e, σ1, kn1, h1, h2⟩ := evC_ok h
    cases e with
    | normal =>
      obtain ⟨e', σ2, kn2, h3, h4, h5⟩ := front_ok n b h2
      exact ⟨e', σ2, kn2, h3, fun he e2 σ3 hx => .seq h1 (h4 he e2 σ3 hx), fun he => .seq h1 (h5 he)⟩
    | exit id => exact ⟨.exit id, σ1, kn1, h2, (fun h => by cases h), fun _ => .seqX h1 (by simp)⟩
    | ret => exact ⟨.ret, σ1, kn1, h2, (fun h => by cases h), fun _ => .seqX h1 (by simp)⟩
  | n + 1, .skip, σ, kn, k, h => ⟨.normal, σ, kn, h, fun _ _ _ h => h, fun h => absurd rfl h⟩
  | n + 1, .region _ _, σ, kn, k, h => ⟨.normal, σ, kn, h, fun _ _ _ h => h, fun h => absurd rfl h⟩
  | n + 1, .cond _ _ _, σ, kn, k, h => ⟨.normal, σ, kn, h, fun _ _ _ h => h, fun h => absurd rfl h⟩
  | n + 1, .block _ _, σ, kn, k, h => ⟨.normal, σ, kn, h, fun _ _ _ h => h, fun h => absurd rfl h⟩
  | n + 1, .loop _, σ, kn, k, h => ⟨.normal, σ, kn, h, fun _ _ _ h => h, fun h => absurd rfl h⟩
  | n + 1, .exit _, σ, kn, k, h => ⟨.normal, σ, kn, h, fun _ _ _ h => h, fun h => absurd rfl h⟩
  | n + 1, .ret, σ, kn, k, h => ⟨.normal, σ, kn, h, fun _ _ _ h => h, fun h => absurd rfl h⟩
  | n + 1, .bad, σ, kn, k, h => ⟨.normal, σ, kn, h, fun _ _ _ h => h, fun h => absurd rfl h⟩

/-- the code ends with this result -/
def Ends (P : Program) (ps : List Nat) (rs : List RV) (r : AV) (c : VCode) (σ : Env) : Prop :=
  ∃ e σ', Exec (VCall P) ps c σ e σ' ∧ (e = .normal ∨ e = .ret) ∧ ∃ v, outRs rs σ' = some v ∧ AV.fin r v = r

/-- the same; only some slots are handed on -/
def evK (VC : FuncId → List AV → AV → Prop) (ps ks : List Nat) (rs : List RV) (r0 : AV) (O : Orc) (c : VCode) (σ : Env) : T (Option AV × Env) :=
  evC VC ps O c σ [] fun e σ _ => match e with
    | .normal => .leaf (none, σ.clear ks)
    | .exit _ => .fail
    | .ret => match outRs rs σ with | some v => .leaf (some (AV.fin r0 v), []) | none => .fail
theorem evK_of {VC : FuncId → List AV → AV → Prop} {ps ks : List Nat} {rs : List RV} {r0 : AV} {O : Orc} {c : VCode} {σ : Env} {t : T (Option AV × Env)} {Q : Option AV × Env → Prop}
    (e : evK VC ps ks rs r0 O c σ = t) (ht : t.ok Q) : (evK VC ps ks rs r0 O c σ).ok Q := e ▸ ht
theorem T.ok_itrue {α : Type} {Q : α → Prop} {x y : T α} (h : x.ok Q) : (T.ite true x y).ok Q := ⟨fun _ => h, fun h => nomatch h⟩
theorem T.ok_ifalse {α : Type} {Q : α → Prop} {x y : T α} (h : y.ok Q) : (T.ite false x y).ok Q := ⟨(fun h => nomatch h), fun _ => h⟩
theorem T.ok_go {σ1 : Env} {H : Prop} {r : AV} (h : H) : (T.leaf ((none : Option AV), σ1)).ok (fun x => (x = (none, σ1) ∧ H) ∨ x = (some r, [])) := .inl ⟨rfl, h⟩
theorem T.ok_end {σ1 : Env} {H : Prop} {r a : AV} (h : a = r) : (T.leaf (some a, ([] : Env))).ok (fun x => (x = (none, σ1) ∧ H) ∨ x = (some r, [])) := .inr (by rw [h])
theorem T.ok_endL {r a : AV} (h : a = r) : (T.leaf (some a, ([] : Env))).ok (fun x => x = (some r, [])) := by subst h; rfl

section
variable {P : Program} {ps : List Nat} {rs : List RV} {r : AV} {O : Orc}
theorem cut_stepK {ks : List Nat} {n : Nat} {c : VCode} {σ σ1 : Env} {H : Prop} (h : (evK (VCall P) ps ks rs r O (front n c) σ).ok (fun x => (x = (none, σ1) ∧ H) ∨ x = (some r, [])))
    (h2 : H → Ends P ps rs r (rest n c) σ1) : Ends P ps rs r c σ := by
  unfold evK at h
  obtain ⟨e, σ', kn', hk, hn, hx⟩ := front_ok n c h
  cases e with
  | normal =>
    rcases hk with ⟨hk, hH⟩ | hk
    · cases hk
      obtain ⟨e2, σ2, he, h3⟩ := h2 hH
      exact ⟨e2, σ2, hn rfl e2 σ2 (.forget ks he), h3⟩
    · cases hk
  | exit id => exact hk.elim
  | ret =>
    have hx := hx (by simp)
    simp only at hk
    split at hk
    · rename_i v hv
      rcases hk with ⟨hk, _⟩ | hk
      · cases hk
      · simp only [Prod.mk.injEq, Option.some.injEq, and_true] at hk
        exact ⟨.ret, σ', hx, .inr rfl, v, hv, hk⟩
    · exact hk.elim
theorem cut_last {c : VCode} {σ : Env} (h : (evS (VCall P) ps rs r O c σ).ok (fun x => x = (some r, []))) : Ends P ps rs r c σ := by
  unfold evS at h
  obtain ⟨e, σ', kn', hx, hk⟩ := evC_ok h
  cases e with
  | normal => cases hk
  | exit id => exact hk.elim
  | ret =>
    simp only at hk
    split at hk
    · rename_i v hv
      simp only [T.ok, Prod.mk.injEq, Option.some.injEq, and_true] at hk
      exact ⟨.ret, σ', hx, .inr rfl, v, hv, hk⟩
    · exact hk.elim
theorem FnIs.call_cut {f : FuncId} {nt : Nat} {vc : VCode} (h : FnIs P f nt rs vc) {args : List AV} (ht : Ends P ps rs r vc (startEnv nt args)) (hM : r.isM = false := by rfl) : VCall P f args r := by
  obtain ⟨fn, c0, hf, hb, hc, hr, hn⟩ := h.has
  subst hn
  obtain ⟨e, σ', hrun, he, v, hv, hvr⟩ := ht
  obtain ⟨a1, a2, a3⟩ := outRs_ok hr hv
  exact vcall_of_exec (rs := fn.results.toList) hf hb hc (by simp) (by rw [a1]; exact h.len) h.enter he hrun a2 (by rw [a3]; exact hvr) hM
end
end Go.Proofs.LV
