/- Texts that belong together. -/
import Derived.Test.YtdffgjembkanoaaLvEv
import Derived.KernelRfl
import GoSem.Extern.Table
import Derived.Test.YtdffgjembkanoaaLvSimX
namespace Go.Proofs.LV
open Go Go.RowKit
set_option linter.unusedVariables false
set_option linter.unusedSimpArgs false

/-- function f is answered by e -/
structure ExtIs (P : Program) (f : FuncId) (e : Array Value → Sem Value) : Prop where
  run : ∀ (vs : Array Value) (w w' : World) (v : Value), (e vs).run P w = .ok v w' → (callFunc f vs).run P w = .ok (.value v) w'

theorem ExtIs.of {P : Program} {f : FuncId} {fn : Func} {e : Array Value → Sem Value} (hf : P.funcs[f]? = some fn) (hname : (fn.name == "runtime.NumGoroutine") = false) (hb : fn.body.isNone = true)
    (hn : Extern.findNext fn = none) (he : Extern.find fn = some e) : ExtIs P f e := by
  refine ⟨fun vs w w' v h => ?_⟩
  have h1 : fn.name ≠ "runtime.NumGoroutine" := by simpa using hname
  have h2 : fn.body = none := by simpa using hb
  simp [callFunc, hf, h1, h2, hn, he, h]

/-- what such a function says of numbers, and no more -/
theorem ext_call {P : Program} {f : FuncId} {e : Array Value → Sem Value} (h : ExtIs P f e) {args : List AV} {r : AV} (hM : r.isM = false := by rfl)
    (hr : ∀ (G : Gh) (w : World) (vs : Array Value), VL G w args vs.toList → ∃ v n, (e vs).run P w = .ok v { w with drawn := n } ∧ ∀ G' w', VR G' w' r v) : VCall P f args r := by
  refine VCallN.to hM ⟨fun w I π vs hI hπ hv => .inr ?_⟩
  obtain ⟨v, n, hv1, hv2⟩ := hr _ w vs hv
  have hs := (start_sim hI hπ hv 0).g
  exact ⟨v, _, h.run _ _ _ _ hv1, v, argGh I π, rfl, hs.same ⟨n, rfl⟩, hv2 _ _⟩

theorem canon_not_nan {k : FloatKind} {b : Nat} (h : canon k b ≠ fnan k) : canon k b = b := by
  unfold canon at h ⊢
  split
  · rename_i h'; rw [if_pos h'] at h; exact absurd rfl h
  · rfl

theorem f2b32_ok {P : Program} {f : FuncId} (h : ExtIs P f Extern.MathFloatBits.float32bits) (x : Nat) (hx : x ≠ fnan .f32) : VCall P f [.f .f32 x] (.i .u32 x) := by
  refine ext_call h (hr := fun G w vs hv => ?_)
  obtain ⟨u, hu, b, rfl, hb, rfl⟩ := vl1 hv
  obtain ⟨vs⟩ := vs
  simp only at hu
  subst hu
  rw [canon_not_nan hx]
  refine ⟨.int .u32 b, w.drawn, rfl, fun G' w' => ⟨rfl, ?_, ?_⟩⟩
  · show (0 : Int) ≤ _; omega
  · show (b : Int) ≤ 4294967295
    have : b < 4294967296 := hb
    omega
theorem f2b64_ok {P : Program} {f : FuncId} (h : ExtIs P f Extern.MathFloatBits.float64bits) (x : Nat) (hx : x ≠ fnan .f64) : VCall P f [.f .f64 x] (.i .u64 x) := by
  refine ext_call h (hr := fun G w vs hv => ?_)
  obtain ⟨u, hu, b, rfl, hb, rfl⟩ := vl1 hv
  obtain ⟨vs⟩ := vs
  simp only at hu
  subst hu
  rw [canon_not_nan hx]
  refine ⟨.int .u64 b, w.drawn, rfl, fun G' w' => ⟨rfl, ?_, ?_⟩⟩
  · show (0 : Int) ≤ _; omega
  · show (b : Int) ≤ 18446744073709551615
    have : b < 18446744073709551616 := hb
    omega
end Go.Proofs.LV

namespace Go.Proofs.LV
open Go Ieee
set_option linter.unusedVariables false
set_option linter.unusedSimpArgs false

theorem read_word_rung (f : Format) (neg : Bool) (r : Nat) (h : r < f.signWeight) : f.word neg r % f.signWeight = r ∧ (f.word neg r / f.signWeight % 2 == 1) = neg := by
  unfold Format.word
  have hp := signWeight_pos f
  cases neg
  · simp only [Bool.false_eq_true, if_false]
    exact ⟨Nat.mod_eq_of_lt h, by rw [Nat.div_eq_of_lt h]; rfl⟩
  · simp only [if_true]
    refine ⟨by rw [Nat.add_mod_left, Nat.mod_eq_of_lt h], ?_⟩
    rw [Nat.add_div_left _ hp, Nat.div_eq_of_lt h]; rfl
theorem read_word_fin (f : Format) (neg : Bool) (r : Nat) (h : r < f.infRung) : (f.read (f.word neg r)).isInfinity = false := by
  have hlt : r < f.signWeight := Nat.lt_trans h f.infRung_lt
  unfold Format.read
  simp only [(read_word_rung f neg r hlt).1]
  split
  · rfl
  · first | rfl | (rw [if_pos h]; rfl)

theorem cut_zero (neg : Bool) (n : Nat) : Toward.even.cut neg n 0 = n := by
  simp [Toward.cut, Nat.mod_one]

/-- a number of few digits, well inside the greater format, is a finite number there -/
theorem nearest64_fin (neg : Bool) (mag : Nat) (place : Int) (hm : mag < 2 ^ 53) (h1 : -1074 ≤ place) (h2 : place ≤ 900) : (double.read (double.nearest neg mag place)).isInfinity = false := by
  unfold Format.nearest
  split
  · exact read_word_fin _ _ _ (by decide)
  · rename_i h0
    have hl : mag.log2 ≤ 52 := by
      have := (Nat.log2_lt h0).2 hm
      omega
    have hle : double.leastPlace = -1074 := by decide
    have hfb : (double.fractionBits : Int) = 52 := by decide
    rw [hle, hfb]
    simp only
    generalize hL : max (place + (mag.log2 : Int) - 52) (-1074) = last
    have hlp : last ≤ place := by omega
    have hd : (last - place).toNat = 0 := by omega
    rw [hd, cut_zero]
    have hk : mag <<< (place - last).toNat < 2 ^ 53 := by
      rw [Nat.shiftLeft_eq]
      have hb : mag < 2 ^ (mag.log2 + 1) := Nat.lt_log2_self
      have hs : (place - last).toNat ≤ 52 - mag.log2 := by omega
      calc mag * 2 ^ (place - last).toNat < 2 ^ (mag.log2 + 1) * 2 ^ (place - last).toNat := Nat.mul_lt_mul_of_pos_right hb (Nat.two_pow_pos _)
        _ = 2 ^ (mag.log2 + 1 + (place - last).toNat) := (Nat.pow_add ..).symm
        _ ≤ 2 ^ 53 := Nat.pow_le_pow_right (by omega) (by omega)
    have hr : (last - -1074).toNat * double.binade + mag <<< (place - last).toNat < double.infRung := by
      have e1 : double.binade = 2 ^ 52 := rfl
      have e2 : double.infRung = 2047 * 2 ^ 52 := by decide
      have : (last - -1074).toNat ≤ 1974 := by omega
      rw [e1, e2]
      have : (last - -1074).toNat * 2 ^ 52 ≤ 1974 * 2 ^ 52 := Nat.mul_le_mul_right _ this
      omega
    rw [Nat.min_eq_left (Nat.le_of_lt hr)]
    exact read_word_fin _ _ _ hr

theorem read32_bounds {x : Nat} {neg : Bool} {mag : Nat} {place : Int} (h : single.read x = .number neg mag place) : mag < 2 ^ 24 ∧ -149 ≤ place ∧ place ≤ 200 := by
  unfold Format.read at h
  have hb : single.binade = 2 ^ 23 := rfl
  have hle : single.leastPlace = -149 := by decide
  have hi : single.infRung = 255 * 2 ^ 23 := by decide
  simp only [hb, hle, hi] at h
  split at h
  · cases h; omega
  · split at h
    · cases h
      rename_i h1 h2
      have : x % single.signWeight / 2 ^ 23 < 255 := (Nat.div_lt_iff_lt_mul (by decide)).2 h2
      have : x % single.signWeight % 2 ^ 23 < 2 ^ 23 := Nat.mod_lt _ (by decide)
      omega
    · split at h <;> cases h

theorem fconvOk_32_64 (x : Nat) : fconvOk .f32 .f64 x = true := by
  unfold fconvOk
  simp only [reduceCtorEq, if_false]
  split
  · rename_i n m e h
    have := read32_bounds h
    have := nearest64_fin n m e (by omega) (by omega) (by omega)
    simp only [FloatKind.decode, FloatKind.encode, FloatKind.format, Format.write, this, Bool.not_false]
  · rfl

end Go.Proofs.LV

namespace Go.Proofs.LV
open Go
set_option linter.unusedVariables false
set_option linter.unusedSimpArgs false

abbrev PS (p : List Nat) (k : FloatKind) (xs : List Nat) : AV := .sl (.par p) 0 (.f k xs)
abbrev OS (n : Nat) (k : FloatKind) (xs : List Nat) : AV := .sl (.own n) 0 (.f k xs)
/-! ### plain lemmas -/
theorem wrap64_id {n : Int} (h1 : -9223372036854775808 ≤ n) (h2 : n ≤ 9223372036854775807) : IntKind.wrap .i64 n = n := by
  simp [IntKind.wrap, IntKind.signed, IntKind.bits, Int.bmod]
  omega
theorem getD_nat {α : Type} (xs : List α) (i : Nat) (d : α) : xs.getD (Int.toNat (i : Int)) d = xs.getD i d := by simp
theorem ml64 {n : Nat} (h : n ≤ maxLen) : n ≤ 9223372036854775807 := h

/-- a loop that counts up to m -/
theorem for_up {VC : FuncId → List AV → AV → Prop} {ps : List Nat} {id : Nat} {b : VCode} {e e' : Ex} {σ0 σ1 : Env} (m : Nat) (st : Nat → Env) (h0 : σ0 = st 0) (h : ∀ i, i < m → Exec VC ps b (st i) .normal (st (i + 1)))
    (he : Exec VC ps b (st m) e σ1) (hne : e ≠ .normal := by simp) (hx : e.inBlock id = e' := by rfl) : Exec VC ps (.block id (.loop b)) σ0 e' σ1 := by
  subst hx; subst h0; exact for_loop m st h he hne

/-! ### numbers -/
/-- is a number finite, as the program asks it -/
def finM (x : Nat) : Bool := feq .f32 (fsub .f32 x x) 0
def finAllM (xs : List Nat) : Bool := xs.all finM
def inM (n low top : Int) : Bool := decide (n ≥ low) && decide (n ≤ top)
-- FN impl_IsFinite
def ps_impl_IsFinite : List Nat := [0, 2]
def b_impl_IsFinite : VCode :=
 (.seq
 (.region false [
 ⟨some 2, .mv, [.k (.b false)], none⟩])
 (.seq
 (.region false [
 ⟨some 3, .mv, [.t 0], none⟩,
 ⟨some 4, .mv, [.t 0], none⟩,
 ⟨some 5, (.bin .sub), [.t 3, .t 4], none⟩,
 ⟨some 6, (.bin .eql), [.t 5, .k (.f .f32 0)], none⟩,
 ⟨some 2, .mv, [.t 6], none⟩])
 .ret))

abbrev Is_impl_IsFinite (P : Program) (g_f : FuncId) : Prop := FnIs P g_f 7 [.t 2] (b_impl_IsFinite)

abbrev C_impl_IsFinite (P : Program) (g_f : FuncId) : Prop := ∀ (x : Nat), VCall P g_f [.f .f32 x] (.b (finM x))
def oc1_impl_IsFinite (as : List AV) : T AV := match as with | [.f .f32 x] => .leaf (.b (finM x)) | _ => .fail



theorem q_impl_IsFinite {P : Program} {g_f : FuncId} (h_ : Is_impl_IsFinite P g_f) (x : Nat) (ht : T.ok (fun x_ => x_ = .b (finM x)) (
 T.leaf (AV.b (feq .f32 (fsub .f32 x x) 0)))) :
 VCall P g_f [.f .f32 x] (.b (finM x)) := h_.call_of ps_impl_IsFinite ⟨fun _ _ => .fail, fun _ _ => none⟩ (by kernel_rfl) ht

-- END impl_IsFinite

theorem k_impl_IsFinite {P : Program} {f : FuncId} (h : Is_impl_IsFinite P f) : C_impl_IsFinite P f := fun x => q_impl_IsFinite h x rfl

-- FN spec_l01Finite
def ps_spec_l01Finite : List Nat := [0, 2]
def b_spec_l01Finite : VCode :=
 (.seq
 (.region false [
 ⟨some 2, .mv, [.k (.b false)], none⟩])
 (.seq
 (.region false [
 ⟨some 3, .mv, [.t 0], none⟩,
 ⟨some 4, .mv, [.t 0], none⟩,
 ⟨some 5, (.bin .sub), [.t 3, .t 4], none⟩,
 ⟨some 6, (.bin .eql), [.t 5, .k (.f .f32 0)], none⟩,
 ⟨some 2, .mv, [.t 6], none⟩])
 .ret))

abbrev Is_spec_l01Finite (P : Program) (g_f : FuncId) : Prop := FnIs P g_f 7 [.t 2] (b_spec_l01Finite)

abbrev C_spec_l01Finite (P : Program) (g_f : FuncId) : Prop := ∀ (x : Nat), VCall P g_f [.f .f32 x] (.b (finM x))
def oc1_spec_l01Finite (as : List AV) : T AV := match as with | [.f .f32 x] => .leaf (.b (finM x)) | _ => .fail



theorem q_spec_l01Finite {P : Program} {g_f : FuncId} (h_ : Is_spec_l01Finite P g_f) (x : Nat) (ht : T.ok (fun x_ => x_ = .b (finM x)) (
 T.leaf (AV.b (feq .f32 (fsub .f32 x x) 0)))) :
 VCall P g_f [.f .f32 x] (.b (finM x)) := h_.call_of ps_spec_l01Finite ⟨fun _ _ => .fail, fun _ _ => none⟩ (by kernel_rfl) ht

-- END spec_l01Finite

theorem k_spec_l01Finite {P : Program} {f : FuncId} (h : Is_spec_l01Finite P f) : C_spec_l01Finite P f := fun x => q_spec_l01Finite h x rfl


-- FN impl_within
def ps_impl_within : List Nat := [0, 1, 2, 6]
def b_impl_within : VCode :=
 (.seq
 (.region false [
 ⟨some 6, .mv, [.k (.b false)], none⟩])
 (.seq
 (.region false [
 ⟨some 7, .mv, [.t 0], none⟩,
 ⟨some 8, .mv, [.t 1], none⟩,
 ⟨some 9, (.bin .geq), [.t 7, .t 8], none⟩,
 ⟨some 10, .mv, [.t 9], none⟩,
 ⟨some 11, .mv, [.t 0], some (10, true)⟩,
 ⟨some 12, .mv, [.t 2], some (10, true)⟩,
 ⟨some 13, (.bin .leq), [.t 11, .t 12], some (10, true)⟩,
 ⟨some 14, .pick, [.t 10, .t 13, .k (.b false)], none⟩,
 ⟨some 6, .mv, [.t 14], none⟩])
 .ret))

abbrev Is_impl_within (P : Program) (g_f : FuncId) : Prop := FnIs P g_f 15 [.t 6] (b_impl_within)

abbrev C_impl_within (P : Program) (g_f : FuncId) : Prop := ∀ (n : Int) (low : Int) (top : Int), VCall P g_f [.i .i64 n, .i .i64 low, .i .i64 top] (.b (inM n low top))
def oc1_impl_within (as : List AV) : T AV := match as with | [.i .i64 n, .i .i64 low, .i .i64 top] => .leaf (.b (inM n low top)) | _ => .fail



theorem q_impl_within {P : Program} {g_f : FuncId} (h_ : Is_impl_within P g_f) (n : Int) (low : Int) (top : Int) (ht : T.ok (fun x_ => x_ = .b (inM n low top)) (
 T.ite (decide (n ≥ low)) (T.leaf (AV.b (decide (n ≤ top)))) (T.leaf (AV.b false)))) :
 VCall P g_f [.i .i64 n, .i .i64 low, .i .i64 top] (.b (inM n low top)) := h_.call_of ps_impl_within ⟨fun _ _ => .fail, fun _ _ => none⟩ (by kernel_rfl) ht

-- END impl_within

theorem k_impl_within {P : Program} {f : FuncId} (h : Is_impl_within P f) : C_impl_within P f := by
  intro n low top
  refine q_impl_within h n low top ⟨fun h => ?_, fun h => ?_⟩ <;> simp only [T.ok, inM, h, Bool.true_and, Bool.false_and]


end Go.Proofs.LV
