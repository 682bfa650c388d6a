/- Texts that belong together. -/
import Derived.Test.YtjfgmnfkkehgfaaLvEv
import Derived.KernelRfl
import GoSem.Extern.Table
import Derived.Test.YtjfgmnfkkehgfaaLvSimX
namespace Go.Proofs.LV
open Go Go.RowKit
set_option linter.unusedVariables false
set_option linter.unusedSimpArgs false

/-- function f is answered by e -/
structure ExtIs (P : Program) (f : FuncId) (e : Array Value → Sem Value) : Prop where
  run : ∀ (vs : Array Value) (w w' : World) (v : Value), (e vs).run P w = .ok v w' → (callFunc f vs).run P w = .ok (.value v) w'

theorem ExtIs.of {P : Program} {f : FuncId} {fn : Func} {e : Array Value → Sem Value} (hf : P.funcs[f]? = some fn) (hname : (fn.name == "runtime.NumGoroutine") = false) (hb : fn.body.isNone = true)
    (hn : Extern.findNext fn = none) (he : Extern.find fn = some e) : ExtIs P f e := by
  refine ⟨fun vs w w' v h => ?_⟩
  have h1 : fn.name ≠ "runtime.NumGoroutine" := by simpa using hname
  have h2 : fn.body = none := by simpa using hb
  simp [callFunc, hf, h1, h2, hn, he, h]

/-- what such a function says of numbers, and no more -/
theorem ext_call {P : Program} {f : FuncId} {e : Array Value → Sem Value} (h : ExtIs P f e) {args : List AV} {r : AV} (hM : r.isM = false := by rfl)
    (hr : ∀ (G : Gh) (w : World) (vs : Array Value), VL G w args vs.toList → ∃ v n, (e vs).run P w = .ok v { w with drawn := n } ∧ ∀ G' w', VR G' w' r v) : VCall P f args r := by
  refine VCallN.to hM ⟨fun w I π vs hI hπ hv => .inr ?_⟩
  obtain ⟨v, n, hv1, hv2⟩ := hr _ w vs hv
  have hs := (start_sim hI hπ hv 0).g
  exact ⟨v, _, h.run _ _ _ _ hv1, v, argGh I π, rfl, hs.same ⟨n, rfl⟩, hv2 _ _⟩

/-- the root, every not-a-number as one -/
def fsqrt (x : Nat) : Nat := (FloatKind.f64.format.sqrt x).getD (fnan .f64)
end Go.Proofs.LV

namespace Go.Proofs.LV
open Go Ieee
set_option linter.unusedVariables false
set_option linter.unusedSimpArgs false

theorem read_word_rung (f : Format) (neg : Bool) (r : Nat) (h : r < f.signWeight) : f.word neg r % f.signWeight = r ∧ (f.word neg r / f.signWeight % 2 == 1) = neg := by
  unfold Format.word
  have hp := signWeight_pos f
  cases neg
  · simp only [Bool.false_eq_true, if_false]
    exact ⟨Nat.mod_eq_of_lt h, by rw [Nat.div_eq_of_lt h]; rfl⟩
  · simp only [if_true]
    refine ⟨by rw [Nat.add_mod_left, Nat.mod_eq_of_lt h], ?_⟩
    rw [Nat.add_div_left _ hp, Nat.div_eq_of_lt h]; rfl
theorem read_word_fin (f : Format) (neg : Bool) (r : Nat) (h : r < f.infRung) : (f.read (f.word neg r)).isInfinity = false := by
  have hlt : r < f.signWeight := Nat.lt_trans h f.infRung_lt
  unfold Format.read
  simp only [(read_word_rung f neg r hlt).1]
  split
  · rfl
  · first | rfl | (rw [if_pos h]; rfl)

theorem cut_zero (neg : Bool) (n : Nat) : Toward.even.cut neg n 0 = n := by
  simp [Toward.cut, Nat.mod_one]

/-- a number of few digits, well inside the greater format, is a finite number there -/
theorem nearest64_fin (neg : Bool) (mag : Nat) (place : Int) (hm : mag < 2 ^ 53) (h1 : -1074 ≤ place) (h2 : place ≤ 900) : (double.read (double.nearest neg mag place)).isInfinity = false := by
  unfold Format.nearest
  split
  · exact read_word_fin _ _ _ (by decide)
  · rename_i h0
    have hl : mag.log2 ≤ 52 := by
      have := (Nat.log2_lt h0).2 hm
      omega
    have hle : double.leastPlace = -1074 := by decide
    have hfb : (double.fractionBits : Int) = 52 := by decide
    rw [hle, hfb]
    simp only
    generalize hL : max (place + (mag.log2 : Int) - 52) (-1074) = last
    have hlp : last ≤ place := by omega
    have hd : (last - place).toNat = 0 := by omega
    rw [hd, cut_zero]
    have hk : mag <<< (place - last).toNat < 2 ^ 53 := by
      rw [Nat.shiftLeft_eq]
      have hb : mag < 2 ^ (mag.log2 + 1) := Nat.lt_log2_self
      have hs : (place - last).toNat ≤ 52 - mag.log2 := by omega
      calc mag * 2 ^ (place - last).toNat < 2 ^ (mag.log2 + 1) * 2 ^ (place - last).toNat := Nat.mul_lt_mul_of_pos_right hb (Nat.two_pow_pos _)
        _ = 2 ^ (mag.log2 + 1 + (place - last).toNat) := (Nat.pow_add ..).symm
        _ ≤ 2 ^ 53 := Nat.pow_le_pow_right (by omega) (by omega)
    have hr : (last - -1074).toNat * double.binade + mag <<< (place - last).toNat < double.infRung := by
      have e1 : double.binade = 2 ^ 52 := rfl
      have e2 : double.infRung = 2047 * 2 ^ 52 := by decide
      have : (last - -1074).toNat ≤ 1974 := by omega
      rw [e1, e2]
      have : (last - -1074).toNat * 2 ^ 52 ≤ 1974 * 2 ^ 52 := Nat.mul_le_mul_right _ this
      omega
    rw [Nat.min_eq_left (Nat.le_of_lt hr)]
    exact read_word_fin _ _ _ hr

theorem read32_bounds {x : Nat} {neg : Bool} {mag : Nat} {place : Int} (h : single.read x = .number neg mag place) : mag < 2 ^ 24 ∧ -149 ≤ place ∧ place ≤ 200 := by
  unfold Format.read at h
  have hb : single.binade = 2 ^ 23 := rfl
  have hle : single.leastPlace = -149 := by decide
  have hi : single.infRung = 255 * 2 ^ 23 := by decide
  simp only [hb, hle, hi] at h
  split at h
  · cases h; omega
  · split at h
    · cases h
      rename_i h1 h2
      have : x % single.signWeight / 2 ^ 23 < 255 := (Nat.div_lt_iff_lt_mul (by decide)).2 h2
      have : x % single.signWeight % 2 ^ 23 < 2 ^ 23 := Nat.mod_lt _ (by decide)
      omega
    · split at h <;> cases h

theorem fconvOk_32_64 (x : Nat) : fconvOk .f32 .f64 x = true := by
  unfold fconvOk
  simp only [reduceCtorEq, if_false]
  split
  · rename_i n m e h
    have := read32_bounds h
    have := nearest64_fin n m e (by omega) (by omega) (by omega)
    simp only [FloatKind.decode, FloatKind.encode, FloatKind.format, Format.write, this, Bool.not_false]
  · rfl

end Go.Proofs.LV

namespace Go.Proofs.LV
open Go
set_option linter.unusedVariables false
set_option linter.unusedSimpArgs false

abbrev PS (p : List Nat) (k : FloatKind) (xs : List Nat) : AV := .sl (.par p) 0 (.f k xs)
abbrev OS (n : Nat) (k : FloatKind) (xs : List Nat) : AV := .sl (.own n) 0 (.f k xs)
/-! ### plain lemmas -/
theorem wrap64_id {n : Int} (h1 : -9223372036854775808 ≤ n) (h2 : n ≤ 9223372036854775807) : IntKind.wrap .i64 n = n := by
  simp [IntKind.wrap, IntKind.signed, IntKind.bits, Int.bmod]
  omega
theorem getD_nat {α : Type} (xs : List α) (i : Nat) (d : α) : xs.getD (Int.toNat (i : Int)) d = xs.getD i d := by simp
theorem ml64 {n : Nat} (h : n ≤ maxLen) : n ≤ 9223372036854775807 := h

/-- a loop that counts up to m -/
theorem for_up {VC : FuncId → List AV → AV → Prop} {ps : List Nat} {id : Nat} {b : VCode} {e e' : Ex} {σ0 σ1 : Env} (m : Nat) (st : Nat → Env) (h0 : σ0 = st 0) (h : ∀ i, i < m → Exec VC ps b (st i) .normal (st (i + 1)))
    (he : Exec VC ps b (st m) e σ1) (hne : e ≠ .normal := by simp) (hx : e.inBlock id = e' := by rfl) : Exec VC ps (.block id (.loop b)) σ0 e' σ1 := by
  subst hx; subst h0; exact for_loop m st h he hne

/-! ### numbers -/
/-- is a number finite, as the program asks it -/
def finM (x : Nat) : Bool := feq .f32 (fsub .f32 x x) 0
def finAllM (xs : List Nat) : Bool := xs.all finM
def inM (n low top : Int) : Bool := decide (n ≥ low) && decide (n ≤ top)
def isShareM (x : Nat) : Bool := fge .f32 x 0 && fle .f32 x 1065353216

-- FN impl_IsFinite
def ps_impl_IsFinite : List Nat := [0, 2]
def b_impl_IsFinite : VCode :=
 (.seq
 (.region false [
 ⟨some 2, .mv, [.k (.b false)], none⟩])
 (.seq
 (.region false [
 ⟨some 3, .mv, [.t 0], none⟩,
 ⟨some 4, .mv, [.t 0], none⟩,
 ⟨some 5, (.bin .sub), [.t 3, .t 4], none⟩,
 ⟨some 6, (.bin .eql), [.t 5, .k (.f .f32 0)], none⟩,
 ⟨some 2, .mv, [.t 6], none⟩])
 .ret))

abbrev Is_impl_IsFinite (P : Program) (g_f : FuncId) : Prop := FnIs P g_f 7 [.t 2] (b_impl_IsFinite)

abbrev C_impl_IsFinite (P : Program) (g_f : FuncId) : Prop := ∀ (x : Nat), VCall P g_f [.f .f32 x] (.b (finM x))
def oc1_impl_IsFinite (as : List AV) : T AV := match as with | [.f .f32 x] => .leaf (.b (finM x)) | _ => .fail



theorem q_impl_IsFinite {P : Program} {g_f : FuncId} (h_ : Is_impl_IsFinite P g_f) (x : Nat) (ht : T.ok (fun x_ => x_ = .b (finM x)) (
 T.leaf (AV.b (feq .f32 (fsub .f32 x x) 0)))) :
 VCall P g_f [.f .f32 x] (.b (finM x)) := h_.call_of ps_impl_IsFinite ⟨fun _ _ => .fail, fun _ _ => none⟩ (by kernel_rfl) ht

-- END impl_IsFinite

theorem k_impl_IsFinite {P : Program} {f : FuncId} (h : Is_impl_IsFinite P f) : C_impl_IsFinite P f := fun x => q_impl_IsFinite h x rfl


-- FN impl_isShare
def ps_impl_isShare : List Nat := [0, 2]
def b_impl_isShare : VCode :=
 (.seq
 (.region false [
 ⟨some 2, .mv, [.k (.b false)], none⟩])
 (.seq
 (.region false [
 ⟨some 3, .mv, [.t 0], none⟩,
 ⟨some 4, (.bin .geq), [.t 3, .k (.f .f32 0)], none⟩,
 ⟨some 5, .mv, [.t 4], none⟩,
 ⟨some 6, .mv, [.t 0], some (5, true)⟩,
 ⟨some 7, (.bin .leq), [.t 6, .k (.f .f32 1065353216)], some (5, true)⟩,
 ⟨some 8, .pick, [.t 5, .t 7, .k (.b false)], none⟩,
 ⟨some 2, .mv, [.t 8], none⟩])
 .ret))

abbrev Is_impl_isShare (P : Program) (g_f : FuncId) : Prop := FnIs P g_f 9 [.t 2] (b_impl_isShare)

abbrev C_impl_isShare (P : Program) (g_f : FuncId) : Prop := ∀ (x : Nat), VCall P g_f [.f .f32 x] (.b (isShareM x))
def oc1_impl_isShare (as : List AV) : T AV := match as with | [.f .f32 x] => .leaf (.b (isShareM x)) | _ => .fail



theorem q_impl_isShare {P : Program} {g_f : FuncId} (h_ : Is_impl_isShare P g_f) (x : Nat) (ht : T.ok (fun x_ => x_ = .b (isShareM x)) (
 T.ite (fge .f32 x 0) (T.leaf (AV.b (fle .f32 x 1065353216))) (T.leaf (AV.b false)))) :
 VCall P g_f [.f .f32 x] (.b (isShareM x)) := h_.call_of ps_impl_isShare ⟨fun _ _ => .fail, fun _ _ => none⟩ (by kernel_rfl) ht

-- END impl_isShare

theorem k_impl_isShare {P : Program} {f : FuncId} (h : Is_impl_isShare P f) : C_impl_isShare P f := by
  intro x
  refine q_impl_isShare h x ?_
  cases h1 : fge .f32 x 0 <;> simp [T.ok, isShareM, h1]


-- FN impl_within
def ps_impl_within : List Nat := [0, 1, 2, 6]
def b_impl_within : VCode :=
 (.seq
 (.region false [
 ⟨some 6, .mv, [.k (.b false)], none⟩])
 (.seq
 (.region false [
 ⟨some 7, .mv, [.t 0], none⟩,
 ⟨some 8, .mv, [.t 1], none⟩,
 ⟨some 9, (.bin .geq), [.t 7, .t 8], none⟩,
 ⟨some 10, .mv, [.t 9], none⟩,
 ⟨some 11, .mv, [.t 0], some (10, true)⟩,
 ⟨some 12, .mv, [.t 2], some (10, true)⟩,
 ⟨some 13, (.bin .leq), [.t 11, .t 12], some (10, true)⟩,
 ⟨some 14, .pick, [.t 10, .t 13, .k (.b false)], none⟩,
 ⟨some 6, .mv, [.t 14], none⟩])
 .ret))

abbrev Is_impl_within (P : Program) (g_f : FuncId) : Prop := FnIs P g_f 15 [.t 6] (b_impl_within)

abbrev C_impl_within (P : Program) (g_f : FuncId) : Prop := ∀ (n : Int) (low : Int) (top : Int), VCall P g_f [.i .i64 n, .i .i64 low, .i .i64 top] (.b (inM n low top))
def oc1_impl_within (as : List AV) : T AV := match as with | [.i .i64 n, .i .i64 low, .i .i64 top] => .leaf (.b (inM n low top)) | _ => .fail



theorem q_impl_within {P : Program} {g_f : FuncId} (h_ : Is_impl_within P g_f) (n : Int) (low : Int) (top : Int) (ht : T.ok (fun x_ => x_ = .b (inM n low top)) (
 T.ite (decide (n ≥ low)) (T.leaf (AV.b (decide (n ≤ top)))) (T.leaf (AV.b false)))) :
 VCall P g_f [.i .i64 n, .i .i64 low, .i .i64 top] (.b (inM n low top)) := h_.call_of ps_impl_within ⟨fun _ _ => .fail, fun _ _ => none⟩ (by kernel_rfl) ht

-- END impl_within

theorem k_impl_within {P : Program} {f : FuncId} (h : Is_impl_within P f) : C_impl_within P f := by
  intro n low top
  refine q_impl_within h n low top ⟨fun h => ?_, fun h => ?_⟩ <;> simp only [T.ok, inM, h, Bool.true_and, Bool.false_and]


/-- the numbers that a mark writes -/
def marksM : Nat → Int → List Nat
  | 0, _ => []
  | n + 1, k => fofi .f32 k :: marksM n (k + 1)


theorem marks_len : ∀ (n : Nat) (k : Int), (marksM n k).length = n
  | 0, _ => rfl
  | n + 1, k => by simp [marksM, marks_len n]
end Go.Proofs.LV

namespace Go.Proofs.LV
open Go
set_option linter.unusedVariables false
set_option linter.unusedSimpArgs false

/-- an environment of n slots of which only slot s is told -/
abbrev ret1 (n s : Nat) (v : AV) : Env := anys s ++ v :: anys (n - s - 1)
/-- the first place -/
def idxM {α : Type} (p : α → Bool) (xs : List α) : Int := if xs.findIdx p < xs.length then xs.findIdx p else -1
theorem findIdx_not {α : Type} {p : α → Bool} {xs : List α} {i : Nat} (d : α) (h : i < xs.findIdx p) (hl : i < xs.length) : p (xs.getD i d) = false := by
  have := List.not_of_lt_findIdx h
  simpa [List.getD, List.getElem?_eq_getElem hl] using this
theorem findIdx_is {α : Type} {p : α → Bool} {xs : List α} (d : α) (h : xs.findIdx p < xs.length) : p (xs.getD (xs.findIdx p) d) = true := by
  have := List.findIdx_getElem (w := h)
  simpa [List.getD, List.getElem?_eq_getElem h] using this
theorem findIdx_eq {α : Type} {p : α → Bool} {xs : List α} (h : ¬ xs.findIdx p < xs.length) : xs.findIdx p = xs.length := by
  have := List.findIdx_le_length (p := p) (xs := xs); omega
theorem any_findIdx {α : Type} {p : α → Bool} {xs : List α} : xs.any p = decide (xs.findIdx p < xs.length) := by
  rw [Bool.eq_iff_iff]
  simp only [List.any_eq_true, decide_eq_true_eq, List.findIdx_lt_length]
theorem idx_any {α : Type} {p : α → Bool} {xs : List α} : decide (idxM p xs ≥ 0) = xs.any p := by
  rw [any_findIdx]
  unfold idxM
  by_cases hlt : xs.findIdx p < xs.length
  · simp [hlt]
  · simp [hlt]

open Go.IntKind (wrap)
-- FN slices_IndexFunc___float32_float32_
def ps_slices_IndexFunc___float32_float32_ : List Nat := [0, 1, 4, 5, 7, 8, 9, 16]
def lv_slices_IndexFunc___float32_float32__L0 : List Nat := [0, 1, 7, 8]
def b_slices_IndexFunc___float32_float32__L0 : VCode :=
 (.seq
 (.region false [
 ⟨some 9, (.bin .lss), [.t 8, .t 7], none⟩])
 (.seq
 (.cond (.t 9)
 .skip
 (.exit 0))
 (.seq
 (.block 1
 (.seq
 (.region false [
 ⟨some 10, .mv, [.t 8], none⟩,
 ⟨some 5, .mv, [.t 10], none⟩])
 (.seq
 (.region false [
 ⟨some 11, .mv, [.t 1], none⟩,
 ⟨some 12, .mv, [.t 0], none⟩,
 ⟨some 13, .mv, [.t 5], none⟩,
 ⟨some 14, .iaddr, [.t 12, .t 13], none⟩,
 ⟨some 15, .load, [.t 14], none⟩,
 ⟨some 16, .callv, [.t 11, .t 15], none⟩])
 (.cond (.t 16)
 (.seq
 (.region false [
 ⟨some 17, .mv, [.t 5], none⟩,
 ⟨some 4, .mv, [.t 17], none⟩])
 .ret)
 .skip))))
 (.region false [
 ⟨some 18, (.bin .add), [.t 8, .k (.i .i64 1)], none⟩,
 ⟨some 8, .mv, [.t 18], none⟩]))))

def b_slices_IndexFunc___float32_float32_ : VCode :=
 (.seq
 (.region false [
 ⟨some 4, .mv, [.k (.i .i64 0)], none⟩])
 (.seq
 (.seq
 (.region false [
 ⟨some 6, .mv, [.t 0], none⟩,
 ⟨some 7, .len, [.t 6], none⟩,
 ⟨some 8, .mv, [.k (.i .i64 0)], none⟩])
 (.block 0 (.loop b_slices_IndexFunc___float32_float32__L0)))
 (.seq
 (.region false [
 ⟨some 4, .mv, [.k (.i .i64 (-1))], none⟩])
 .ret)))

abbrev Is_slices_IndexFunc___float32_float32_ (P : Program) (g_f : FuncId) : Prop := FnIs P g_f 19 [.t 4] (b_slices_IndexFunc___float32_float32_)

abbrev C_slices_IndexFunc___float32_float32_ (P : Program) (g_f : FuncId) : Prop := ∀ (xs : List Nat) (F : FuncId) (p : Nat → Bool) (hF : ∀ x, VCall P F [.f .f32 x] (.b (p x))) (hx : xs.length ≤ maxLen), VCall P g_f [PS [0] .f32 xs, .fn F []] (.i .i64 (idxM p xs))
def oc_slices_IndexFunc___float32_float32_ (xs : List Nat) (F : FuncId) (p : Nat → Bool) (d : Nat) (as : List AV) : T AV := match d with | 16 => (match as with | [.f _ x] => .leaf (.b (p x)) | _ => .fail) | _ => .fail
def h_slices_IndexFunc___float32_float32__L0 (xs : List Nat) (F : FuncId) (p : Nat → Bool) (v8 : Int) : Env := [AV.sl (Tag.par [0]) 0 (Cont.f .f32 xs), AV.fn F []] ++ anys 5 ++ [AV.i .i64 (↑(List.length xs) : Int), .i .i64 v8] ++ anys 10

theorem q_slices_IndexFunc___float32_float32__L0 {VC : FuncId → List AV → AV → Prop} (xs : List Nat) (F : FuncId) (p : Nat → Bool) (v8 : Int) {e_ : Ex} {σ_ : Env} (ht : T.ok (fun x_ => x_ = (e_, σ_)) (
 T.ite (decide (v8 < (↑(List.length xs) : Int)))
 (T.ob (0 ≤ v8 ∧ v8 < (↑(List.length xs) : Int))
 (T.ob (VC F [AV.f .f32 (List.getD xs (Int.toNat v8) 0)] (AV.b (p (List.getD xs (Int.toNat v8) 0))))
 (T.ite (p (List.getD xs (Int.toNat v8) 0)) (T.leaf (Ex.ret, anys 4 ++ AV.i .i64 v8 :: anys 14)) (T.leaf (Ex.normal, h_slices_IndexFunc___float32_float32__L0 xs F p (wrap .i64 (v8 + 1)))))))
 (T.leaf (Ex.exit 0, h_slices_IndexFunc___float32_float32__L0 xs F p v8)))) :
 Exec VC ps_slices_IndexFunc___float32_float32_ (b_slices_IndexFunc___float32_float32__L0) (h_slices_IndexFunc___float32_float32__L0 xs F p v8) e_ σ_ := evL_of (lv := lv_slices_IndexFunc___float32_float32__L0) (rs := [4]) (O := ⟨oc_slices_IndexFunc___float32_float32_ xs F p, fun _ _ => none⟩) (by kernel_rfl) ht

theorem q_slices_IndexFunc___float32_float32_ {P : Program} {g_f : FuncId} (h_ : Is_slices_IndexFunc___float32_float32_ P g_f) (xs : List Nat) (F : FuncId) (p : Nat → Bool) (ht : T.ok (fun x_ => x_ = .i .i64 (idxM p xs)) (
 T.ite (decide (List.findIdx p xs < List.length xs))
 (T.ob
 (Exec (VCall P) ps_slices_IndexFunc___float32_float32_ (VCode.block 0 (VCode.loop b_slices_IndexFunc___float32_float32__L0)) (h_slices_IndexFunc___float32_float32__L0 xs F p 0) Ex.ret
 (anys 4 ++ AV.i .i64 (↑(List.findIdx p xs) : Int) :: anys 14))
 (T.leaf (AV.i .i64 (↑(List.findIdx p xs) : Int))))
 (T.ob
 (Exec (VCall P) ps_slices_IndexFunc___float32_float32_ (VCode.block 0 (VCode.loop b_slices_IndexFunc___float32_float32__L0)) (h_slices_IndexFunc___float32_float32__L0 xs F p 0) Ex.normal
 (h_slices_IndexFunc___float32_float32__L0 xs F p (↑(List.length xs) : Int)))
 (T.leaf (AV.i .i64 (-1)))))) :
 VCall P g_f [PS [0] .f32 xs, .fn F []] (.i .i64 (idxM p xs)) := h_.call_of ps_slices_IndexFunc___float32_float32_ ⟨oc_slices_IndexFunc___float32_float32_ xs F p, fun id σ => match id with | 0 => some (lv_slices_IndexFunc___float32_float32__L0, .ite (decide (xs.findIdx p < xs.length)) (.leaf (.ret, ret1 19 4 (.i .i64 (xs.findIdx p)))) (.leaf (.normal, h_slices_IndexFunc___float32_float32__L0 xs F p xs.length))) | _ => none⟩ (by kernel_rfl) ht

-- END slices_IndexFunc___float32_float32_

theorem k_slices_IndexFunc___float32_float32_ {P : Program} {f : FuncId} (h : Is_slices_IndexFunc___float32_float32_ P f) : C_slices_IndexFunc___float32_float32_ P f := by
  intro xs F p hF hx
  have hm := ml64 hx
  have step : ∀ i, i < xs.length → p (xs.getD i 0) = false → Exec (VCall P) ps_slices_IndexFunc___float32_float32_ b_slices_IndexFunc___float32_float32__L0 (h_slices_IndexFunc___float32_float32__L0 xs F p i) .normal (h_slices_IndexFunc___float32_float32__L0 xs F p (i + 1 : Nat)) := by
    intro i hi hp
    refine q_slices_IndexFunc___float32_float32__L0 _ _ _ _ ⟨fun _ => ⟨by omega, fun _ => ⟨hF _, fun _ => ⟨fun h => ?_, fun _ => ?_⟩⟩⟩, fun h => absurd (of_decide_eq_false h) (by omega)⟩
    · rw [getD_nat, hp] at h; cases h
    · show _ = _
      rw [wrap64_id (by omega) (by omega)]; rfl
  refine q_slices_IndexFunc___float32_float32_ h xs F p ⟨fun hlt => ⟨?_, fun _ => ?_⟩, fun hge => ⟨?_, fun _ => ?_⟩⟩
  · have hlt := of_decide_eq_true hlt
    refine for_up (e := .ret) (xs.findIdx p) (fun i => h_slices_IndexFunc___float32_float32__L0 xs F p i) rfl (fun i hi => step i (by omega) (findIdx_not 0 hi (by omega))) ?_
    refine q_slices_IndexFunc___float32_float32__L0 _ _ _ _ ⟨fun _ => ⟨by omega, fun _ => ⟨hF _, fun _ => ⟨fun _ => rfl, fun h => ?_⟩⟩⟩, fun h => absurd (of_decide_eq_false h) (by omega)⟩
    rw [getD_nat, findIdx_is 0 hlt] at h; cases h
  · have hlt := of_decide_eq_true hlt
    show _ = _
    simp [idxM, hlt]
  · have hge := of_decide_eq_false hge
    have he := findIdx_eq hge
    refine for_up (e := .exit 0) xs.length (fun i => h_slices_IndexFunc___float32_float32__L0 xs F p i) rfl (fun i hi => step i hi (findIdx_not 0 (by omega) hi)) ?_
    exact q_slices_IndexFunc___float32_float32__L0 _ _ _ _ ⟨fun h => absurd h (by simp), fun _ => rfl⟩
  · have hge := of_decide_eq_false hge
    show _ = _
    simp [idxM, hge]

-- FN slices_ContainsFunc___float32_float32_
def ps_slices_ContainsFunc___float32_float32_ : List Nat := [0, 1, 4]
def b_slices_ContainsFunc___float32_float32_ (gq0 : FuncId) : VCode :=
 (.seq
 (.region false [
 ⟨some 4, .mv, [.k (.b false)], none⟩])
 (.seq
 (.region false [
 ⟨some 5, .mv, [.t 0], none⟩,
 ⟨some 6, .mv, [.t 1], none⟩,
 ⟨some 7, (.call gq0), [.t 5, .t 6], none⟩,
 ⟨some 8, (.bin .geq), [.t 7, .k (.i .i64 0)], none⟩,
 ⟨some 4, .mv, [.t 8], none⟩])
 .ret))

abbrev Is_slices_ContainsFunc___float32_float32_ (P : Program) (g_f : FuncId) (gq0 : FuncId) : Prop := FnIs P g_f 9 [.t 4] (b_slices_ContainsFunc___float32_float32_ gq0)

abbrev C_slices_ContainsFunc___float32_float32_ (P : Program) (g_f : FuncId) : Prop := ∀ (xs : List Nat) (F : FuncId) (p : Nat → Bool) (hF : ∀ x, VCall P F [.f .f32 x] (.b (p x))) (hx : xs.length ≤ maxLen), VCall P g_f [PS [0] .f32 xs, .fn F []] (.b (xs.any p))
def oc_slices_ContainsFunc___float32_float32_ (xs : List Nat) (F : FuncId) (p : Nat → Bool) (d : Nat) (as : List AV) : T AV := match d with | 7 => .leaf (.i .i64 (idxM p xs)) | _ => .fail



theorem q_slices_ContainsFunc___float32_float32_ {P : Program} {g_f : FuncId} {gq0 : FuncId} (h_ : Is_slices_ContainsFunc___float32_float32_ P g_f gq0) (xs : List Nat) (F : FuncId) (p : Nat → Bool) (ht : T.ok (fun x_ => x_ = .b (xs.any p)) (
 T.ob ((VCall P) gq0 [AV.sl (Tag.par [0]) 0 (Cont.f .f32 xs), AV.fn F []] (AV.i .i64 (idxM p xs))) (T.leaf (AV.b (decide (idxM p xs ≥ 0)))))) :
 VCall P g_f [PS [0] .f32 xs, .fn F []] (.b (xs.any p)) := h_.call_of ps_slices_ContainsFunc___float32_float32_ ⟨oc_slices_ContainsFunc___float32_float32_ xs F p, fun _ _ => none⟩ (by kernel_rfl) ht

-- END slices_ContainsFunc___float32_float32_

theorem k_slices_ContainsFunc___float32_float32_ {P : Program} {f g : FuncId} (h : Is_slices_ContainsFunc___float32_float32_ P f g) (hg : C_slices_IndexFunc___float32_float32_ P g) : C_slices_ContainsFunc___float32_float32_ P f := by
  intro xs F p hF hx
  refine q_slices_ContainsFunc___float32_float32_ h xs F p ⟨hg xs F p hF hx, fun _ => ?_⟩
  show _ = _
  rw [idx_any]

-- FN impl_areFinite_1
def ps_impl_areFinite_1 : List Nat := [0, 2]
def b_impl_areFinite_1 (gq0 : FuncId) : VCode :=
 (.seq
 (.region false [
 ⟨some 2, .mv, [.k (.b false)], none⟩])
 (.seq
 (.region false [
 ⟨some 3, .mv, [.t 0], none⟩,
 ⟨some 4, (.call gq0), [.t 3], none⟩,
 ⟨some 5, .not, [.t 4], none⟩,
 ⟨some 2, .mv, [.t 5], none⟩])
 .ret))

abbrev Is_impl_areFinite_1 (P : Program) (g_f : FuncId) (gq0 : FuncId) : Prop := FnIs P g_f 6 [.t 2] (b_impl_areFinite_1 gq0)

abbrev C_impl_areFinite_1 (P : Program) (g_f : FuncId) : Prop := ∀ (x : Nat), VCall P g_f [.f .f32 x] (.b (!finM x))
def oc_impl_areFinite_1 (x : Nat) (d : Nat) (as : List AV) : T AV := match d with | 4 => oc1_impl_IsFinite as | _ => .fail



theorem q_impl_areFinite_1 {P : Program} {g_f : FuncId} {gq0 : FuncId} (h_ : Is_impl_areFinite_1 P g_f gq0) (x : Nat) (ht : T.ok (fun x_ => x_ = .b (!finM x)) (
 T.ob ((VCall P) gq0 [AV.f .f32 x] (AV.b (finM x))) (T.leaf (AV.b !finM x)))) :
 VCall P g_f [.f .f32 x] (.b (!finM x)) := h_.call_of ps_impl_areFinite_1 ⟨oc_impl_areFinite_1 x, fun _ _ => none⟩ (by kernel_rfl) ht

-- END impl_areFinite_1

theorem k_impl_areFinite_1 {P : Program} {f g : FuncId} (h : Is_impl_areFinite_1 P f g) (hg : C_impl_IsFinite P g) : C_impl_areFinite_1 P f := fun x => q_impl_areFinite_1 h x ⟨hg x, fun _ => rfl⟩

-- FN impl_areFinite
def ps_impl_areFinite : List Nat := [0, 2]
def b_impl_areFinite (gq0 gq1 : FuncId) : VCode :=
 (.seq
 (.region false [
 ⟨some 2, .mv, [.k (.b false)], none⟩])
 (.seq
 (.region false [
 ⟨some 3, .mv, [.t 0], none⟩,
 ⟨some 4, (.call gq0), [.t 3, .k (.fn gq1 [])], none⟩,
 ⟨some 5, .not, [.t 4], none⟩,
 ⟨some 2, .mv, [.t 5], none⟩])
 .ret))

abbrev Is_impl_areFinite (P : Program) (g_f : FuncId) (gq0 gq1 : FuncId) : Prop := FnIs P g_f 6 [.t 2] (b_impl_areFinite gq0 gq1)

abbrev C_impl_areFinite (P : Program) (g_f : FuncId) : Prop := ∀ (xs : List Nat) (hx : xs.length ≤ maxLen), VCall P g_f [PS [0] .f32 xs] (.b (finAllM xs))
def oc1_impl_areFinite (as : List AV) : T AV := match as with | [.sl _ _ (.f .f32 xs)] => .leaf (.b (finAllM xs)) | _ => .fail
def oc_impl_areFinite (xs : List Nat) (d : Nat) (as : List AV) : T AV := match d with | 4 => .leaf (.b (xs.any fun x => !finM x)) | _ => .fail



theorem q_impl_areFinite {P : Program} {g_f : FuncId} {gq0 gq1 : FuncId} (h_ : Is_impl_areFinite P g_f gq0 gq1) (xs : List Nat) (ht : T.ok (fun x_ => x_ = .b (finAllM xs)) (
 T.ob ((VCall P) gq0 [AV.sl (Tag.par [0]) 0 (Cont.f .f32 xs), AV.fn gq1 []] (AV.b (List.any xs fun (x : Nat) => !finM x)))
 (T.leaf (AV.b !List.any xs fun (x : Nat) => !finM x)))) :
 VCall P g_f [PS [0] .f32 xs] (.b (finAllM xs)) := h_.call_of ps_impl_areFinite ⟨oc_impl_areFinite xs, fun _ _ => none⟩ (by kernel_rfl) ht

-- END impl_areFinite

theorem k_impl_areFinite {P : Program} {f g F : FuncId} (h : Is_impl_areFinite P f g F) (hg : C_slices_ContainsFunc___float32_float32_ P g) (hF : C_impl_areFinite_1 P F) : C_impl_areFinite P f := by
  intro xs hx
  refine q_impl_areFinite h xs ⟨hg xs F _ hF hx, fun _ => ?_⟩
  show _ = _
  congr 1
  unfold finAllM
  rw [← List.not_all_eq_any_not, Bool.not_not]

theorem maxLen_eq : maxLen = 9223372036854775807 := rfl
def seriesM (xs : List Nat) : Bool := decide ((xs.length : Int) ≥ 1) && (decide ((xs.length : Int) ≤ 96) && finAllM xs)
def ifAllM (xs : List Nat) : List Nat := if finAllM xs = true then xs else []
-- FN impl_IsSeries
def ps_impl_IsSeries : List Nat := [0, 2]
def b_impl_IsSeries (gq0 : FuncId) : VCode :=
 (.seq
 (.region false [
 ⟨some 2, .mv, [.k (.b false)], none⟩])
 (.seq
 (.region false [
 ⟨some 3, .mv, [.t 0], none⟩,
 ⟨some 4, .len, [.t 3], none⟩,
 ⟨some 5, (.bin .geq), [.t 4, .k (.i .i64 1)], none⟩,
 ⟨some 6, .mv, [.t 5], none⟩,
 ⟨some 7, .mv, [.t 0], some (6, true)⟩,
 ⟨some 8, .len, [.t 7], some (6, true)⟩,
 ⟨some 9, (.bin .leq), [.t 8, .k (.i .i64 96)], some (6, true)⟩,
 ⟨some 10, .pick, [.t 6, .t 9, .k (.b false)], none⟩,
 ⟨some 11, .mv, [.t 10], none⟩,
 ⟨some 12, .mv, [.t 0], some (11, true)⟩,
 ⟨some 13, (.call gq0), [.t 12], some (11, true)⟩,
 ⟨some 14, .pick, [.t 11, .t 13, .k (.b false)], none⟩,
 ⟨some 2, .mv, [.t 14], none⟩])
 .ret))

abbrev Is_impl_IsSeries (P : Program) (g_f : FuncId) (gq0 : FuncId) : Prop := FnIs P g_f 15 [.t 2] (b_impl_IsSeries gq0)

abbrev C_impl_IsSeries (P : Program) (g_f : FuncId) : Prop := ∀ (xs : List Nat) (hx : xs.length ≤ maxLen), VCall P g_f [PS [0] .f32 xs] (.b (seriesM xs))
def oc1_impl_IsSeries (as : List AV) : T AV := match as with | [.sl _ _ (.f .f32 xs)] => .leaf (.b (seriesM xs)) | _ => .fail
def oc_impl_IsSeries (xs : List Nat) (d : Nat) (as : List AV) : T AV := match d with | 13 => oc1_impl_areFinite as | _ => .fail



theorem q_impl_IsSeries {P : Program} {g_f : FuncId} {gq0 : FuncId} (h_ : Is_impl_IsSeries P g_f gq0) (xs : List Nat) (ht : T.ok (fun x_ => x_ = .b (seriesM xs)) (
 T.ite (decide ((↑(List.length xs) : Int) ≥ 1))
 (T.ite (decide ((↑(List.length xs) : Int) ≤ 96)) (T.ob ((VCall P) gq0 [AV.sl (Tag.par [0]) 0 (Cont.f .f32 xs)] (AV.b (finAllM xs))) (T.leaf (AV.b (finAllM xs)))) (T.leaf (AV.b false)))
 (T.leaf (AV.b false)))) :
 VCall P g_f [PS [0] .f32 xs] (.b (seriesM xs)) := h_.call_of ps_impl_IsSeries ⟨oc_impl_IsSeries xs, fun _ _ => none⟩ (by kernel_rfl) ht

-- END impl_IsSeries




-- FN impl_ifAll
def ps_impl_ifAll : List Nat := [0, 2, 3, 6]
def b_impl_ifAll (gq0 : FuncId) : VCode :=
 (.seq
 (.region false [
 ⟨some 2, (.nilsl (.f .f32 [])), [], none⟩,
 ⟨some 3, .mv, [.k (.b false)], none⟩])
 (.seq
 (.seq
 (.region false [
 ⟨some 4, .mv, [.t 0], none⟩,
 ⟨some 5, (.call gq0), [.t 4], none⟩,
 ⟨some 6, .not, [.t 5], none⟩])
 (.cond (.t 6)
 (.seq
 (.region false [
 ⟨some 2, (.nilsl (.f .f32 [])), [], none⟩,
 ⟨some 3, .mv, [.k (.b false)], none⟩])
 .ret)
 .skip))
 (.seq
 (.region false [
 ⟨some 7, .mv, [.t 0], none⟩,
 ⟨some 2, .mv, [.t 7], none⟩,
 ⟨some 3, .mv, [.k (.b true)], none⟩])
 .ret)))

abbrev Is_impl_ifAll (P : Program) (g_f : FuncId) (gq0 : FuncId) : Prop := FnIs P g_f 8 [.t 2, .t 3] (b_impl_ifAll gq0)

abbrev C_impl_ifAll (P : Program) (g_f : FuncId) : Prop := ∀ (xs : List Nat) (hx : xs.length ≤ maxLen), VCall P g_f [PS [0] .f32 xs] (.tup [PS [0] .f32 (ifAllM xs), .b (finAllM xs)])
def oc1_impl_ifAll (as : List AV) : T AV := match as with | [.sl _ _ (.f .f32 xs)] => .leaf (.tup [PS [0] .f32 (ifAllM xs), .b (finAllM xs)]) | _ => .fail
def oc_impl_ifAll (xs : List Nat) (d : Nat) (as : List AV) : T AV := match d with | 5 => oc1_impl_areFinite as | _ => .fail



theorem q_impl_ifAll {P : Program} {g_f : FuncId} {gq0 : FuncId} (h_ : Is_impl_ifAll P g_f gq0) (xs : List Nat) (ht : T.ok (fun x_ => x_ = .tup [PS [0] .f32 (ifAllM xs), .b (finAllM xs)]) (
 T.ob ((VCall P) gq0 [AV.sl (Tag.par [0]) 0 (Cont.f .f32 xs)] (AV.b (finAllM xs)))
 (T.ite (!finAllM xs) (T.leaf (AV.tup [AV.sl (Tag.par [0]) 0 (Cont.f .f32 []), AV.b false])) (T.leaf (AV.tup [AV.sl (Tag.par [0]) 0 (Cont.f .f32 xs), AV.b true]))))) :
 VCall P g_f [PS [0] .f32 xs] (.tup [PS [0] .f32 (ifAllM xs), .b (finAllM xs)]) := h_.call_of ps_impl_ifAll ⟨oc_impl_ifAll xs, fun _ _ => none⟩ (by kernel_rfl) ht

-- END impl_ifAll








theorem k_impl_IsSeries {P : Program} {f g : FuncId} (h : Is_impl_IsSeries P f g) (hg : C_impl_areFinite P g) : C_impl_IsSeries P f := by
  intro xs hx
  refine q_impl_IsSeries h xs ?_
  repeat' (first | with_reducible refine T.ok_ob ?_ (fun _ => ?_) | with_reducible refine T.ok_ite (fun _ => ?_) (fun _ => ?_) | with_reducible refine T.ok_leaf ?_)
  all_goals first | exact hg _ hx | (simp only [seriesM, *]; simp; done)
theorem k_impl_ifAll {P : Program} {f g : FuncId} (h : Is_impl_ifAll P f g) (hg : C_impl_areFinite P g) : C_impl_ifAll P f := by
  intro xs hx
  refine q_impl_ifAll h xs ?_
  repeat' (first | with_reducible refine T.ok_ob ?_ (fun _ => ?_) | with_reducible refine T.ok_ite (fun _ => ?_) (fun _ => ?_) | with_reducible refine T.ok_leaf ?_)
  all_goals first | exact hg _ hx | (simp_all [ifAllM]; done)
end Go.Proofs.LV
