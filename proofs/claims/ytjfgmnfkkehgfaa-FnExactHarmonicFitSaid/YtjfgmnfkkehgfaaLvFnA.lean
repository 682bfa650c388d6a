/- Functions of the laws and of both packages that copy, count, compare and look whether numbers are finite. -/
import Derived.Test.YtjfgmnfkkehgfaaLvExtX
namespace Go.Proofs.LV
open Go
set_option linter.unusedVariables false
set_option linter.unusedSimpArgs false

abbrev PS (p : List Nat) (k : FloatKind) (xs : List Nat) : AV := .sl (.par p) 0 (.f k xs)
abbrev OS (n : Nat) (k : FloatKind) (xs : List Nat) : AV := .sl (.own n) 0 (.f k xs)
abbrev F4 (a b c d : Nat) : List AV := [.f .f32 a, .f .f32 b, .f .f32 c, .f .f32 d]
/-- a state, its season being the tag's -/
abbrev ST (g : Tag) (l s : Nat) (xs : List Nat) (t : Int) : List AV := [.f .f32 l, .f .f32 s, .sl g 0 (.f .f32 xs), .i .i64 t]

/-! ### plain lemmas -/
theorem wrap64_id {n : Int} (h1 : -9223372036854775808 ≤ n) (h2 : n ≤ 9223372036854775807) : IntKind.wrap .i64 n = n := by
  simp [IntKind.wrap, IntKind.signed, IntKind.bits, Int.bmod]
  omega
theorem take_next {α : Type} (xs : List α) (i : Nat) (d : α) (h : i < xs.length) : xs.take (i + 1) = xs.take i ++ [xs.getD i d] := by
  rw [List.take_succ_eq_append_getElem h]; simp [List.getD, List.getElem?_eq_getElem h]
theorem take_set_next {α : Type} (xs : List α) (i : Nat) (d : α) (h : i < xs.length) (x : α) (r : List α) : (xs.take i ++ x :: r).set i (xs.getD i d) = xs.take (i + 1) ++ r := by
  have hl : (xs.take i).length = i := by simp; omega
  rw [List.set_append_right _ _ (by omega), hl, Nat.sub_self, List.set_cons_zero, take_next xs i d h, List.append_assoc, List.singleton_append]
theorem replicate_next {α : Type} (n i : Nat) (x : α) (h : i < n) : List.replicate (n - i) x = x :: List.replicate (n - (i + 1)) x := by
  rw [show n - i = (n - (i + 1)) + 1 by omega, List.replicate_succ]
theorem getD_nat {α : Type} (xs : List α) (i : Nat) (d : α) : xs.getD (Int.toNat (i : Int)) d = xs.getD i d := by simp
theorem ml64 {n : Nat} (h : n ≤ maxLen) : n ≤ 9223372036854775807 := h

/-- a loop that counts up to m -/
theorem for_up {VC : FuncId → List AV → AV → Prop} {ps : List Nat} {id : Nat} {b : VCode} {e e' : Ex} {σ0 σ1 : Env} (m : Nat) (st : Nat → Env) (h0 : σ0 = st 0) (h : ∀ i, i < m → Exec VC ps b (st i) .normal (st (i + 1)))
    (he : Exec VC ps b (st m) e σ1) (hne : e ≠ .normal := by simp) (hx : e.inBlock id = e' := by rfl) : Exec VC ps (.block id (.loop b)) σ0 e' σ1 := by
  subst hx; subst h0; exact for_loop m st h he hne

/-! ### numbers -/
/-- is a number finite, as the program asks it -/
def finM (x : Nat) : Bool := feq .f32 (fsub .f32 x x) 0
def finAllM (xs : List Nat) : Bool := xs.all finM
def inM (n low top : Int) : Bool := decide (n ≥ low) && decide (n ≤ top)
def isShareM (x : Nat) : Bool := fge .f32 x 0 && fle .f32 x 1065353216

-- FN impl_IsFinite
/-- impl.IsFinite: slots 7, results [.t 2]; calls []; names [(x, 0), (x, 1)] -/
def ps_impl_IsFinite : List Nat := [0, 2]
def b_impl_IsFinite : VCode :=
  (.seq
   (.region false [
    ⟨some 2, .mv, [.k (.b false)], none⟩])
   (.seq
    (.region false [
     ⟨some 3, .mv, [.t 0], none⟩,
     ⟨some 4, .mv, [.t 0], none⟩,
     ⟨some 5, (.bin .sub), [.t 3, .t 4], none⟩,
     ⟨some 6, (.bin .eql), [.t 5, .k (.f .f32 0)], none⟩,
     ⟨some 2, .mv, [.t 6], none⟩])
    .ret))

abbrev Is_impl_IsFinite (P : Program) (g_f : FuncId) : Prop := FnIs P g_f 7 [.t 2] (b_impl_IsFinite)

abbrev C_impl_IsFinite (P : Program) (g_f : FuncId) : Prop := ∀ (x : Nat), VCall P g_f [.f .f32 x] (.b (finM x))
def oc1_impl_IsFinite (as : List AV) : T AV := match as with | [.f .f32 x] => .leaf (.b (finM x)) | _ => .fail



theorem q_impl_IsFinite {P : Program} {g_f : FuncId} (h_ : Is_impl_IsFinite P g_f) (x : Nat) (ht : T.ok (fun x_ => x_ = .b (finM x)) (
      T.leaf (AV.b (feq FloatKind.f32 (fsub FloatKind.f32 x x) 0)))) :
    VCall P g_f [.f .f32 x] (.b (finM x)) := h_.call_of ps_impl_IsFinite ⟨fun _ _ => .fail, fun _ _ => none⟩ (by kernel_rfl) ht

-- END impl_IsFinite

theorem k_impl_IsFinite {P : Program} {f : FuncId} (h : Is_impl_IsFinite P f) : C_impl_IsFinite P f := fun x => q_impl_IsFinite h x rfl

-- FN spec_l01Finite
/-- spec.l01Finite: slots 7, results [.t 2]; calls []; names [(x, 0), (x, 1)] -/
def ps_spec_l01Finite : List Nat := [0, 2]
def b_spec_l01Finite : VCode :=
  (.seq
   (.region false [
    ⟨some 2, .mv, [.k (.b false)], none⟩])
   (.seq
    (.region false [
     ⟨some 3, .mv, [.t 0], none⟩,
     ⟨some 4, .mv, [.t 0], none⟩,
     ⟨some 5, (.bin .sub), [.t 3, .t 4], none⟩,
     ⟨some 6, (.bin .eql), [.t 5, .k (.f .f32 0)], none⟩,
     ⟨some 2, .mv, [.t 6], none⟩])
    .ret))

abbrev Is_spec_l01Finite (P : Program) (g_f : FuncId) : Prop := FnIs P g_f 7 [.t 2] (b_spec_l01Finite)

abbrev C_spec_l01Finite (P : Program) (g_f : FuncId) : Prop := ∀ (x : Nat), VCall P g_f [.f .f32 x] (.b (finM x))
def oc1_spec_l01Finite (as : List AV) : T AV := match as with | [.f .f32 x] => .leaf (.b (finM x)) | _ => .fail



theorem q_spec_l01Finite {P : Program} {g_f : FuncId} (h_ : Is_spec_l01Finite P g_f) (x : Nat) (ht : T.ok (fun x_ => x_ = .b (finM x)) (
      T.leaf (AV.b (feq FloatKind.f32 (fsub FloatKind.f32 x x) 0)))) :
    VCall P g_f [.f .f32 x] (.b (finM x)) := h_.call_of ps_spec_l01Finite ⟨fun _ _ => .fail, fun _ _ => none⟩ (by kernel_rfl) ht

-- END spec_l01Finite

theorem k_spec_l01Finite {P : Program} {f : FuncId} (h : Is_spec_l01Finite P f) : C_spec_l01Finite P f := fun x => q_spec_l01Finite h x rfl


-- FN impl_within
/-- impl.within: slots 15, results [.t 6]; calls []; names [(n, 0), (low, 1), (high, 2), (n, 3), (low, 4), (high, 5)] -/
def ps_impl_within : List Nat := [0, 1, 2, 6]
def b_impl_within : VCode :=
  (.seq
   (.region false [
    ⟨some 6, .mv, [.k (.b false)], none⟩])
   (.seq
    (.region false [
     ⟨some 7, .mv, [.t 0], none⟩,
     ⟨some 8, .mv, [.t 1], none⟩,
     ⟨some 9, (.bin .geq), [.t 7, .t 8], none⟩,
     ⟨some 10, .mv, [.t 9], none⟩,
     ⟨some 11, .mv, [.t 0], some (10, true)⟩,
     ⟨some 12, .mv, [.t 2], some (10, true)⟩,
     ⟨some 13, (.bin .leq), [.t 11, .t 12], some (10, true)⟩,
     ⟨some 14, .pick, [.t 10, .t 13, .k (.b false)], none⟩,
     ⟨some 6, .mv, [.t 14], none⟩])
    .ret))

abbrev Is_impl_within (P : Program) (g_f : FuncId) : Prop := FnIs P g_f 15 [.t 6] (b_impl_within)

abbrev C_impl_within (P : Program) (g_f : FuncId) : Prop := ∀ (n : Int) (low : Int) (top : Int), VCall P g_f [.i .i64 n, .i .i64 low, .i .i64 top] (.b (inM n low top))
def oc1_impl_within (as : List AV) : T AV := match as with | [.i .i64 n, .i .i64 low, .i .i64 top] => .leaf (.b (inM n low top)) | _ => .fail



theorem q_impl_within {P : Program} {g_f : FuncId} (h_ : Is_impl_within P g_f) (n : Int) (low : Int) (top : Int) (ht : T.ok (fun x_ => x_ = .b (inM n low top)) (
      T.ite (decide (n ≥ low)) (T.leaf (AV.b (decide (n ≤ top)))) (T.leaf (AV.b false)))) :
    VCall P g_f [.i .i64 n, .i .i64 low, .i .i64 top] (.b (inM n low top)) := h_.call_of ps_impl_within ⟨fun _ _ => .fail, fun _ _ => none⟩ (by kernel_rfl) ht

-- END impl_within

theorem k_impl_within {P : Program} {f : FuncId} (h : Is_impl_within P f) : C_impl_within P f := by
  intro n low top
  refine q_impl_within h n low top ⟨fun h => ?_, fun h => ?_⟩ <;> simp only [T.ok, inM, h, Bool.true_and, Bool.false_and]

-- FN spec_l00In
/-- spec.l00In: slots 15, results [.t 6]; calls []; names [(n, 0), (low, 1), (high, 2), (n, 3), (low, 4), (high, 5)] -/
def ps_spec_l00In : List Nat := [0, 1, 2, 6]
def b_spec_l00In : VCode :=
  (.seq
   (.region false [
    ⟨some 6, .mv, [.k (.b false)], none⟩])
   (.seq
    (.region false [
     ⟨some 7, .mv, [.t 0], none⟩,
     ⟨some 8, .mv, [.t 1], none⟩,
     ⟨some 9, (.bin .geq), [.t 7, .t 8], none⟩,
     ⟨some 10, .mv, [.t 9], none⟩,
     ⟨some 11, .mv, [.t 0], some (10, true)⟩,
     ⟨some 12, .mv, [.t 2], some (10, true)⟩,
     ⟨some 13, (.bin .leq), [.t 11, .t 12], some (10, true)⟩,
     ⟨some 14, .pick, [.t 10, .t 13, .k (.b false)], none⟩,
     ⟨some 6, .mv, [.t 14], none⟩])
    .ret))

abbrev Is_spec_l00In (P : Program) (g_f : FuncId) : Prop := FnIs P g_f 15 [.t 6] (b_spec_l00In)

abbrev C_spec_l00In (P : Program) (g_f : FuncId) : Prop := ∀ (n : Int) (low : Int) (top : Int), VCall P g_f [.i .i64 n, .i .i64 low, .i .i64 top] (.b (inM n low top))
def oc1_spec_l00In (as : List AV) : T AV := match as with | [.i .i64 n, .i .i64 low, .i .i64 top] => .leaf (.b (inM n low top)) | _ => .fail



theorem q_spec_l00In {P : Program} {g_f : FuncId} (h_ : Is_spec_l00In P g_f) (n : Int) (low : Int) (top : Int) (ht : T.ok (fun x_ => x_ = .b (inM n low top)) (
      T.ite (decide (n ≥ low)) (T.leaf (AV.b (decide (n ≤ top)))) (T.leaf (AV.b false)))) :
    VCall P g_f [.i .i64 n, .i .i64 low, .i .i64 top] (.b (inM n low top)) := h_.call_of ps_spec_l00In ⟨fun _ _ => .fail, fun _ _ => none⟩ (by kernel_rfl) ht

-- END spec_l00In

theorem k_spec_l00In {P : Program} {f : FuncId} (h : Is_spec_l00In P f) : C_spec_l00In P f := by
  intro n low top
  refine q_spec_l00In h n low top ⟨fun h => ?_, fun h => ?_⟩ <;> simp only [T.ok, inM, h, Bool.true_and, Bool.false_and]

/-! ### the laws' own -/
-- FN laws_toFloat32S
/-- laws.toFloat32S: slots 22, results [.t 2]; calls []; names [(a, 0), (a, 1), (out, 3), (i, 4)] -/
def ps_laws_toFloat32S : List Nat := [0, 2, 3, 4, 11]
def lv_laws_toFloat32S_L0 : List Nat := [0, 3, 4]
def b_laws_toFloat32S_L0 : VCode :=
  (.seq
   (.seq
    (.region false [
     ⟨some 8, .mv, [.t 4], none⟩,
     ⟨some 9, .mv, [.t 0], none⟩,
     ⟨some 10, .len, [.t 9], none⟩,
     ⟨some 11, (.bin .lss), [.t 8, .t 10], none⟩])
    (.cond (.t 11)
     .skip
     (.exit 0)))
   (.seq
    (.block 1
     (.region false [
      ⟨some 14, .mv, [.t 3], none⟩,
      ⟨some 15, .mv, [.t 4], none⟩,
      ⟨some 16, .mv, [.t 0], none⟩,
      ⟨some 17, .mv, [.t 4], none⟩,
      ⟨some 18, .iaddr, [.t 16, .t 17], none⟩,
      ⟨some 19, .load, [.t 18], none⟩,
      ⟨some 20, .iaddr, [.t 14, .t 15], none⟩,
      ⟨none, .store, [.t 20, .t 19], none⟩]))
    (.region false [
     ⟨some 12, .mv, [.t 4], none⟩,
     ⟨some 13, (.bin .add), [.t 12, .k (.i .i64 1)], none⟩,
     ⟨some 4, .mv, [.t 13], none⟩])))

def b_laws_toFloat32S : VCode :=
  (.seq
   (.region false [
    ⟨some 2, (.nilsl (.f .f32 [])), [], none⟩])
   (.seq
    (.region false [
     ⟨some 5, .mv, [.t 0], none⟩,
     ⟨some 6, .len, [.t 5], none⟩,
     ⟨some 7, (.mksl (.f .f32 0)), [.t 6, .t 6], none⟩,
     ⟨some 3, .mv, [.t 7], none⟩])
    (.seq
     (.seq
      (.region false [
       ⟨some 4, .mv, [.k (.i .i64 0)], none⟩])
      (.block 0 (.loop b_laws_toFloat32S_L0)))
     (.seq
      (.region false [
       ⟨some 21, .mv, [.t 3], none⟩,
       ⟨some 2, .mv, [.t 21], none⟩])
      .ret))))

abbrev Is_laws_toFloat32S (P : Program) (g_f : FuncId) : Prop := FnIs P g_f 22 [.t 2] (b_laws_toFloat32S)

abbrev C_laws_toFloat32S (P : Program) (g_f : FuncId) : Prop := ∀ (xs : List Nat) (hx : xs.length ≤ 4294967296), VCall P g_f [PS [0] .f32 xs] (OS 0 .f32 xs)
def oc1_laws_toFloat32S (as : List AV) : T AV := match as with | [.sl _ _ (.f .f32 xs)] => .leaf (OS 0 .f32 xs) | _ => .fail
def h_laws_toFloat32S_L0 (xs : List Nat) (out : List Nat) (i : Int) : Env := [AV.sl (Tag.par [0]) 0 (Cont.f FloatKind.f32 xs), .any, .any, .sl (Tag.own 56) 0 (.f FloatKind.f32 out), .i IntKind.i64 i] ++ anys 17

theorem q_laws_toFloat32S_L0 {VC : FuncId → List AV → AV → Prop} (xs : List Nat) (out : List Nat) (i : Int) {e_ : Ex} {σ_ : Env} (ht : T.ok (fun x_ => x_ = (e_, σ_)) (
      T.ite (decide (i < (↑(List.length xs) : Int)))
        (T.ob (0 ≤ i ∧ i < (↑(List.length xs) : Int))
          (T.ob (0 ≤ i ∧ i < (↑(List.length out) : Int))
            (T.ob (false = false) (T.leaf (Ex.normal, h_laws_toFloat32S_L0 xs (List.set out (0 + Int.toNat i - 0) (List.getD xs (Int.toNat i) 0)) (IntKind.wrap IntKind.i64 (i + 1)))))))
        (T.leaf (Ex.exit 0, h_laws_toFloat32S_L0 xs out i)))) :
    Exec VC ps_laws_toFloat32S (b_laws_toFloat32S_L0) (h_laws_toFloat32S_L0 xs out i) e_ σ_ := evL_of (lv := lv_laws_toFloat32S_L0) (rs := [2]) (O := ⟨fun _ _ => .fail, fun _ _ => none⟩) (by kernel_rfl) ht

theorem q_laws_toFloat32S {P : Program} {g_f : FuncId} (h_ : Is_laws_toFloat32S P g_f) (xs : List Nat) (ht : T.ok (fun x_ => x_ = OS 0 .f32 xs) (
      T.ob ((↑(List.length xs) : Int) = (↑(List.length xs) : Int) ∧ 0 ≤ (↑(List.length xs) : Int) ∧ (↑(List.length xs) : Int) ≤ 4294967296)
        (T.ob
          (Exec (VCall P) ps_laws_toFloat32S (VCode.block 0 (VCode.loop b_laws_toFloat32S_L0)) (h_laws_toFloat32S_L0 xs (List.replicate (Int.toNat (↑(List.length xs) : Int)) 0) 0) Ex.normal
            (h_laws_toFloat32S_L0 xs xs (↑(List.length xs) : Int)))
          (T.leaf (AV.sl (Tag.own 0) 0 (Cont.f FloatKind.f32 xs)))))) :
    VCall P g_f [PS [0] .f32 xs] (OS 0 .f32 xs) := h_.call_of ps_laws_toFloat32S ⟨fun _ _ => .fail, fun id σ => match id with | 0 => some (lv_laws_toFloat32S_L0, .leaf (.normal, h_laws_toFloat32S_L0 xs xs xs.length)) | _ => none⟩ (by kernel_rfl) ht

-- END laws_toFloat32S

theorem k_laws_toFloat32S {P : Program} {f : FuncId} (h : Is_laws_toFloat32S P f) : C_laws_toFloat32S P f := by
  intro xs hx
  refine q_laws_toFloat32S h xs ⟨⟨rfl, by omega, by omega⟩, fun _ => ⟨?_, fun _ => rfl⟩⟩
  refine for_up (e := .exit 0) xs.length (fun i => h_laws_toFloat32S_L0 xs (xs.take i ++ List.replicate (xs.length - i) 0) i) (by simp) (fun i hi => ?_) ?_
  · refine q_laws_toFloat32S_L0 _ _ _ ⟨fun _ => ⟨by omega, fun _ => ⟨by simp; omega, fun _ => ⟨rfl, fun _ => ?_⟩⟩⟩, fun h => absurd h (by simp; omega)⟩
    show _ = _
    rw [wrap64_id (by omega) (by omega), replicate_next _ _ _ hi]
    simp only [Int.toNat_natCast, Nat.zero_add, Nat.sub_zero, take_set_next xs i 0 hi]
    rfl
  · exact q_laws_toFloat32S_L0 _ _ _ ⟨fun h => absurd h (by simp), fun _ => by simp [T.ok]⟩

-- FN laws_sameFloat
/-- laws.sameFloat: slots 37, results [.t 4]; calls []; names [(a, 0), (b, 1), (a, 2), (b, 3)] -/
def ps_laws_sameFloat : List Nat := [0, 1, 4, 12, 26]
def b_laws_sameFloat : VCode :=
  (.seq
   (.region false [
    ⟨some 4, .mv, [.k (.b false)], none⟩])
   (.seq
    (.seq
     (.region false [
      ⟨some 5, .mv, [.t 0], none⟩,
      ⟨some 6, .mv, [.t 0], none⟩,
      ⟨some 7, (.bin .neq), [.t 5, .t 6], none⟩,
      ⟨some 8, .mv, [.t 7], none⟩,
      ⟨some 9, .mv, [.t 1], some (8, false)⟩,
      ⟨some 10, .mv, [.t 1], some (8, false)⟩,
      ⟨some 11, (.bin .neq), [.t 9, .t 10], some (8, false)⟩,
      ⟨some 12, .pick, [.t 8, .k (.b true), .t 11], none⟩])
     (.cond (.t 12)
      (.seq
       (.region false [
        ⟨some 13, .mv, [.t 0], none⟩,
        ⟨some 14, .mv, [.t 0], none⟩,
        ⟨some 15, (.bin .neq), [.t 13, .t 14], none⟩,
        ⟨some 16, .mv, [.t 15], none⟩,
        ⟨some 17, .mv, [.t 1], some (16, true)⟩,
        ⟨some 18, .mv, [.t 1], some (16, true)⟩,
        ⟨some 19, (.bin .neq), [.t 17, .t 18], some (16, true)⟩,
        ⟨some 20, .pick, [.t 16, .t 19, .k (.b false)], none⟩,
        ⟨some 4, .mv, [.t 20], none⟩])
       .ret)
      .skip))
    (.seq
     (.seq
      (.region false [
       ⟨some 21, .mv, [.t 0], none⟩,
       ⟨some 22, (.bin .eql), [.t 21, .k (.f .f64 0)], none⟩,
       ⟨some 23, .mv, [.t 22], none⟩,
       ⟨some 24, .mv, [.t 1], some (23, true)⟩,
       ⟨some 25, (.bin .eql), [.t 24, .k (.f .f64 0)], some (23, true)⟩,
       ⟨some 26, .pick, [.t 23, .t 25, .k (.b false)], none⟩])
      (.cond (.t 26)
       (.seq
        (.region false [
         ⟨some 27, .mv, [.t 0], none⟩,
         ⟨some 28, (.bin .quo), [.k (.f .f64 4607182418800017408), .t 27], none⟩,
         ⟨some 29, (.bin .gtr), [.t 28, .k (.f .f64 0)], none⟩,
         ⟨some 30, .mv, [.t 1], none⟩,
         ⟨some 31, (.bin .quo), [.k (.f .f64 4607182418800017408), .t 30], none⟩,
         ⟨some 32, (.bin .gtr), [.t 31, .k (.f .f64 0)], none⟩,
         ⟨some 33, (.binb .eql), [.t 29, .t 32], none⟩,
         ⟨some 4, .mv, [.t 33], none⟩])
        .ret)
       .skip))
     (.seq
      (.region false [
       ⟨some 34, .mv, [.t 0], none⟩,
       ⟨some 35, .mv, [.t 1], none⟩,
       ⟨some 36, (.bin .eql), [.t 34, .t 35], none⟩,
       ⟨some 4, .mv, [.t 36], none⟩])
      .ret))))

abbrev Is_laws_sameFloat (P : Program) (g_f : FuncId) : Prop := FnIs P g_f 37 [.t 4] (b_laws_sameFloat)

abbrev C_laws_sameFloat (P : Program) (g_f : FuncId) : Prop := ∀ (x : Nat) (y : Nat) (hy : y = x), VCall P g_f [.f .f64 x, .f .f64 y] (.b true)
def oc1_laws_sameFloat (as : List AV) : T AV := match as with | [.f .f64 x, .f .f64 y] => .leaf (.b true) | _ => .fail



theorem q_laws_sameFloat {P : Program} {g_f : FuncId} (h_ : Is_laws_sameFloat P g_f) (x : Nat) (y : Nat) (ht : T.ok (fun x_ => x_ = .b true) (
      T.ite (fne FloatKind.f64 x x) (T.ite (fne FloatKind.f64 x x) (T.leaf (AV.b (fne FloatKind.f64 y y))) (T.leaf (AV.b false)))
        (T.ite (fne FloatKind.f64 y y) (T.ite (fne FloatKind.f64 x x) (T.leaf (AV.b (fne FloatKind.f64 y y))) (T.leaf (AV.b false)))
          (T.ite (feq FloatKind.f64 x 0)
            (T.ite (feq FloatKind.f64 y 0) (T.ob True (T.ob True (T.leaf (AV.b (fgt FloatKind.f64 (fdiv FloatKind.f64 4607182418800017408 x) 0 == fgt FloatKind.f64 (fdiv FloatKind.f64 4607182418800017408 y) 0)))))
              (T.leaf (AV.b (feq FloatKind.f64 x y))))
            (T.leaf (AV.b (feq FloatKind.f64 x y))))))) :
    VCall P g_f [.f .f64 x, .f .f64 y] (.b true) := h_.call_of ps_laws_sameFloat ⟨fun _ _ => .fail, fun _ _ => none⟩ (by kernel_rfl) ht

-- END laws_sameFloat

theorem k_laws_sameFloat {P : Program} {f : FuncId} (h : Is_laws_sameFloat P f) : C_laws_sameFloat P f := by
  rintro x y rfl
  refine q_laws_sameFloat h _ _ ?_
  cases hx : fne .f64 y y with
  | true => simp [T.ok, hx]
  | false =>
    have : feq .f64 y y = true := by
      unfold fne at hx; unfold feq
      simpa using hx
    simp [T.ok, hx, this]

-- FN laws_eqFloat32S
/-- laws.eqFloat32S: slots 29, results [.t 4]; calls [27:g_laws_sameFloat]; names [(a, 0), (b, 1), (a, 2), (b, 3), (i, 5)] -/
def ps_laws_eqFloat32S : List Nat := [0, 1, 4, 5, 10, 14, 28]
def lv_laws_eqFloat32S_L0 : List Nat := [0, 1, 5]
def b_laws_eqFloat32S_L0 (g_laws_sameFloat : FuncId) : VCode :=
  (.seq
   (.seq
    (.region false [
     ⟨some 11, .mv, [.t 5], none⟩,
     ⟨some 12, .mv, [.t 0], none⟩,
     ⟨some 13, .len, [.t 12], none⟩,
     ⟨some 14, (.bin .lss), [.t 11, .t 13], none⟩])
    (.cond (.t 14)
     .skip
     (.exit 0)))
   (.seq
    (.block 1
     (.seq
      (.region true [
       ⟨some 17, .mv, [.t 0], none⟩,
       ⟨some 18, .mv, [.t 5], none⟩,
       ⟨some 19, .iaddr, [.t 17, .t 18], none⟩,
       ⟨some 20, .load, [.t 19], none⟩,
       ⟨some 21, (.convF .f64), [.t 20], none⟩,
       ⟨some 22, .mv, [.t 1], none⟩,
       ⟨some 23, .mv, [.t 5], none⟩,
       ⟨some 24, .iaddr, [.t 22, .t 23], none⟩,
       ⟨some 25, .load, [.t 24], none⟩,
       ⟨some 26, (.convF .f64), [.t 25], none⟩,
       ⟨some 27, (.call g_laws_sameFloat), [.t 21, .t 26], none⟩,
       ⟨some 28, .not, [.t 27], none⟩])
      (.cond (.t 28)
       (.seq
        (.region false [
         ⟨some 4, .mv, [.k (.b false)], none⟩])
        .ret)
       .skip)))
    (.region false [
     ⟨some 15, .mv, [.t 5], none⟩,
     ⟨some 16, (.bin .add), [.t 15, .k (.i .i64 1)], none⟩,
     ⟨some 5, .mv, [.t 16], none⟩])))

def b_laws_eqFloat32S (g_laws_sameFloat : FuncId) : VCode :=
  (.seq
   (.region false [
    ⟨some 4, .mv, [.k (.b false)], none⟩])
   (.seq
    (.seq
     (.region false [
      ⟨some 6, .mv, [.t 0], none⟩,
      ⟨some 7, .len, [.t 6], none⟩,
      ⟨some 8, .mv, [.t 1], none⟩,
      ⟨some 9, .len, [.t 8], none⟩,
      ⟨some 10, (.bin .neq), [.t 7, .t 9], none⟩])
     (.cond (.t 10)
      (.seq
       (.region false [
        ⟨some 4, .mv, [.k (.b false)], none⟩])
       .ret)
      .skip))
    (.seq
     (.seq
      (.region false [
       ⟨some 5, .mv, [.k (.i .i64 0)], none⟩])
      (.block 0 (.loop (b_laws_eqFloat32S_L0 g_laws_sameFloat))))
     (.seq
      (.region false [
       ⟨some 4, .mv, [.k (.b true)], none⟩])
      .ret))))

abbrev Is_laws_eqFloat32S (P : Program) (g_f : FuncId) (g_laws_sameFloat : FuncId) : Prop := FnIs P g_f 29 [.t 4] (b_laws_eqFloat32S g_laws_sameFloat)

abbrev C_laws_eqFloat32S (P : Program) (g_f : FuncId) : Prop := ∀ (xs : List Nat) (ys : List Nat) (he : ys = xs) (hx : xs.length ≤ 4294967296), VCall P g_f [PS [0] .f32 xs, PS [1] .f32 ys] (.b true)
def oc1_laws_eqFloat32S (as : List AV) : T AV := match as with | [.sl _ _ (.f .f32 xs), .sl _ _ (.f .f32 ys)] => .leaf (.b true) | _ => .fail
def oc_laws_eqFloat32S (xs : List Nat) (ys : List Nat) (d : Nat) (as : List AV) : T AV := match d with | 27 => oc1_laws_sameFloat as | _ => .fail
def h_laws_eqFloat32S_L0 (xs : List Nat) (ys : List Nat) (i : Int) : Env := [AV.sl (Tag.par [0]) 0 (Cont.f FloatKind.f32 xs), AV.sl (Tag.par [1]) 0 (Cont.f FloatKind.f32 ys), .any, .any, .any, .i IntKind.i64 i] ++ anys 23

theorem q_laws_eqFloat32S_L0 {VC : FuncId → List AV → AV → Prop} {g_laws_sameFloat : FuncId} (xs : List Nat) (ys : List Nat) (i : Int) {e_ : Ex} {σ_ : Env} (ht : T.ok (fun x_ => x_ = (e_, σ_)) (
      T.ite (decide (i < (↑(List.length xs) : Int)))
        (T.ob (0 ≤ i ∧ i < (↑(List.length xs) : Int))
          (T.ob (fconvOk FloatKind.f32 FloatKind.f64 (List.getD xs (Int.toNat i) 0) = true)
            (T.ob (0 ≤ i ∧ i < (↑(List.length ys) : Int))
              (T.ob (fconvOk FloatKind.f32 FloatKind.f64 (List.getD ys (Int.toNat i) 0) = true)
                (T.ob
                  (VC g_laws_sameFloat [AV.f FloatKind.f64 (fconv FloatKind.f32 FloatKind.f64 (List.getD xs (Int.toNat i) 0)), AV.f FloatKind.f64 (fconv FloatKind.f32 FloatKind.f64 (List.getD ys (Int.toNat i) 0))] (AV.b true))
                  (T.ite false (T.leaf (Ex.ret, anys 4 ++ AV.b false :: anys 24)) (T.leaf (Ex.normal, h_laws_eqFloat32S_L0 xs ys (IntKind.wrap IntKind.i64 (i + 1))))))))))
        (T.leaf (Ex.exit 0, h_laws_eqFloat32S_L0 xs ys i)))) :
    Exec VC ps_laws_eqFloat32S (b_laws_eqFloat32S_L0 g_laws_sameFloat) (h_laws_eqFloat32S_L0 xs ys i) e_ σ_ := evL_of (lv := lv_laws_eqFloat32S_L0) (rs := [4]) (O := ⟨oc_laws_eqFloat32S xs ys, fun _ _ => none⟩) (by kernel_rfl) ht

theorem q_laws_eqFloat32S {P : Program} {g_f : FuncId} {g_laws_sameFloat : FuncId} (h_ : Is_laws_eqFloat32S P g_f g_laws_sameFloat) (xs : List Nat) (ys : List Nat) (ht : T.ok (fun x_ => x_ = .b true) (
      T.ite ((↑(List.length xs) : Int) != (↑(List.length ys) : Int)) (T.leaf (AV.b false))
        (T.ob (Exec (VCall P) ps_laws_eqFloat32S (VCode.block 0 (VCode.loop (b_laws_eqFloat32S_L0 g_laws_sameFloat))) (h_laws_eqFloat32S_L0 xs ys 0) Ex.normal (h_laws_eqFloat32S_L0 xs ys (↑(List.length xs) : Int)))
          (T.leaf (AV.b true))))) :
    VCall P g_f [PS [0] .f32 xs, PS [1] .f32 ys] (.b true) := h_.call_of ps_laws_eqFloat32S ⟨oc_laws_eqFloat32S xs ys, fun id σ => match id with | 0 => some (lv_laws_eqFloat32S_L0, .leaf (.normal, h_laws_eqFloat32S_L0 xs ys xs.length)) | _ => none⟩ (by kernel_rfl) ht

-- END laws_eqFloat32S

theorem k_laws_eqFloat32S {P : Program} {f g : FuncId} (h : Is_laws_eqFloat32S P f g) (hg : C_laws_sameFloat P g) : C_laws_eqFloat32S P f := by
  rintro xs ys rfl hx
  refine q_laws_eqFloat32S h _ _ ⟨fun h => absurd h (by simp), fun _ => ⟨?_, fun _ => rfl⟩⟩
  refine for_up (e := .exit 0) ys.length (fun i => h_laws_eqFloat32S_L0 ys ys i) rfl (fun i hi => ?_) ?_
  · refine q_laws_eqFloat32S_L0 _ _ _ ⟨fun _ => ⟨by omega, fun _ => ⟨fconvOk_32_64 _, fun _ => ⟨by omega, fun _ => ⟨fconvOk_32_64 _, fun _ => ⟨hg _ _ rfl, fun _ => ⟨fun h => Bool.noConfusion h, fun _ => ?_⟩⟩⟩⟩⟩⟩, fun h => absurd h (by simp; omega)⟩
    show _ = _
    rw [wrap64_id (by omega) (by omega)]
    rfl
  · exact q_laws_eqFloat32S_L0 _ _ _ ⟨fun h => absurd h (by simp), fun _ => rfl⟩

/-- what is left of i numbers behind n -/
def szM (n : Nat) (i : Int) : Int := if i < n then -1 else i - n
/-- the numbers that a mark writes -/
def marksM : Nat → Int → List Nat
  | 0, _ => []
  | n + 1, k => fofi .f32 k :: marksM n (k + 1)

-- FN laws_markFloat32S
/-- laws.markFloat32S: slots 20, results [.t 4]; calls []; names [(a, 0), (k, 1), (a, 2), (k, 3), (i, 5)] -/
def ps_laws_markFloat32S : List Nat := [0, 1, 4, 5, 9]
def lv_laws_markFloat32S_L0 : List Nat := [0, 1, 5]
def b_laws_markFloat32S_L0 : VCode :=
  (.seq
   (.seq
    (.region false [
     ⟨some 6, .mv, [.t 5], none⟩,
     ⟨some 7, .mv, [.t 0], none⟩,
     ⟨some 8, .len, [.t 7], none⟩,
     ⟨some 9, (.bin .lss), [.t 6, .t 8], none⟩])
    (.cond (.t 9)
     .skip
     (.exit 0)))
   (.seq
    (.block 1
     (.seq
      (.region false [
       ⟨some 12, .mv, [.t 0], none⟩,
       ⟨some 13, .mv, [.t 5], none⟩,
       ⟨some 14, .mv, [.t 1], none⟩,
       ⟨some 15, (.convF .f32), [.t 14], none⟩,
       ⟨some 16, .iaddr, [.t 12, .t 13], none⟩,
       ⟨none, .store, [.t 16, .t 15], none⟩])
      (.region false [
       ⟨some 17, .mv, [.t 1], none⟩,
       ⟨some 18, (.bin .add), [.t 17, .k (.i .i64 1)], none⟩,
       ⟨some 1, .mv, [.t 18], none⟩])))
    (.region false [
     ⟨some 10, .mv, [.t 5], none⟩,
     ⟨some 11, (.bin .add), [.t 10, .k (.i .i64 1)], none⟩,
     ⟨some 5, .mv, [.t 11], none⟩])))

def b_laws_markFloat32S : VCode :=
  (.seq
   (.region false [
    ⟨some 4, .mv, [.k (.i .i64 0)], none⟩])
   (.seq
    (.seq
     (.region false [
      ⟨some 5, .mv, [.k (.i .i64 0)], none⟩])
     (.block 0 (.loop b_laws_markFloat32S_L0)))
    (.seq
     (.region false [
      ⟨some 19, .mv, [.t 1], none⟩,
      ⟨some 4, .mv, [.t 19], none⟩])
     .ret)))

abbrev Is_laws_markFloat32S (P : Program) (g_f : FuncId) : Prop := FnIs P g_f 20 [.t 4] (b_laws_markFloat32S)

abbrev C_laws_markFloat32S (P : Program) (g_f : FuncId) : Prop := ∀ (xs : List Nat) (k : Int) (hk : 0 ≤ k ∧ k ≤ 4294967296) (hx : xs.length ≤ 4294967296), VCall P g_f [OS HI .f32 xs, .i .i64 k] ((AV.M (.i .i64 (k + xs.length)) [OS HI .f32 (marksM xs.length k), .i .i64 k]))
def oc1_laws_markFloat32S (as : List AV) : T AV := match as with | [.sl _ _ (.f .f32 xs), .i .i64 k] => .leaf ((AV.M (.i .i64 (k + xs.length)) [OS HI .f32 (marksM xs.length k), .i .i64 k])) | _ => .fail
def h_laws_markFloat32S_L0 (xs : List Nat) (k : Int) (a : List Nat) (k2 : Int) (i : Int) : Env := [.sl (Tag.own 800000) 0 (.f FloatKind.f32 a), .i IntKind.i64 k2, .any, .any, .any, .i IntKind.i64 i] ++ anys 14

theorem q_laws_markFloat32S_L0 {VC : FuncId → List AV → AV → Prop} (xs : List Nat) (k : Int) (a : List Nat) (k2 : Int) (i : Int) {e_ : Ex} {σ_ : Env} (ht : T.ok (fun x_ => x_ = (e_, σ_)) (
      T.ite (decide (i < (↑(List.length a) : Int)))
        (T.ob True
          (T.ob (0 ≤ i ∧ i < (↑(List.length a) : Int))
            (T.ob (false = false) (T.leaf (Ex.normal, h_laws_markFloat32S_L0 xs k (List.set a (0 + Int.toNat i - 0) (fofi FloatKind.f32 k2)) (IntKind.wrap IntKind.i64 (k2 + 1)) (IntKind.wrap IntKind.i64 (i + 1)))))))
        (T.leaf (Ex.exit 0, h_laws_markFloat32S_L0 xs k a k2 i)))) :
    Exec VC ps_laws_markFloat32S (b_laws_markFloat32S_L0) (h_laws_markFloat32S_L0 xs k a k2 i) e_ σ_ := evL_of (lv := lv_laws_markFloat32S_L0) (rs := [4]) (O := ⟨fun _ _ => .fail, fun _ _ => none⟩) (by kernel_rfl) ht

theorem q_laws_markFloat32S {P : Program} {g_f : FuncId} (h_ : Is_laws_markFloat32S P g_f) (xs : List Nat) (k : Int) (ht : T.ok (fun x_ => x_ = (.i .i64 (k + xs.length), [OS HI .f32 (marksM xs.length k), .i .i64 k])) (
      T.ob
        (Exec (VCall P) ps_laws_markFloat32S (VCode.block 0 (VCode.loop b_laws_markFloat32S_L0)) (h_laws_markFloat32S_L0 xs k xs k 0) Ex.normal
          (h_laws_markFloat32S_L0 xs k (marksM (List.length xs) k) (k + (↑(List.length xs) : Int)) (↑(List.length xs) : Int)))
        (T.ob (List.length xs = List.length (marksM (List.length xs) k) ∧ True)
          (T.leaf (AV.i IntKind.i64 (k + (↑(List.length xs) : Int)), [AV.sl (Tag.own 800000) 0 (Cont.f FloatKind.f32 (marksM (List.length xs) k)), AV.i IntKind.i64 k]))))) :
    VCall P g_f [OS HI .f32 xs, .i .i64 k] (AV.M (.i .i64 (k + xs.length)) [OS HI .f32 (marksM xs.length k), .i .i64 k]) := h_.callM_of ps_laws_markFloat32S [0] ⟨fun _ _ => .fail, fun id σ => match id with | 0 => some (lv_laws_markFloat32S_L0, .leaf (.normal, h_laws_markFloat32S_L0 xs k (marksM xs.length k) (k + xs.length) xs.length)) | _ => none⟩ (by kernel_rfl) ht

-- END laws_markFloat32S

theorem marks_len : ∀ (n : Nat) (k : Int), (marksM n k).length = n
  | 0, _ => rfl
  | n + 1, k => by simp [marksM, marks_len n]
theorem marks_get : ∀ (n i : Nat) (k : Int), i < n → (marksM n k).getD i 0 = fofi .f32 (k + i)
  | 0, i, k, h => by omega
  | n + 1, 0, k, h => by simp [marksM]
  | n + 1, i + 1, k, h => by
    have := marks_get n i (k + 1) (by omega)
    simp only [marksM, List.getD_cons_succ, this]
    congr 1; omega
theorem marks_set (xs : List Nat) (n i : Nat) (k : Int) (h : i < n) (hx : xs.length = n) : ((marksM n k).take i ++ xs.drop i).set i (fofi .f32 (k + i)) = (marksM n k).take (i + 1) ++ xs.drop (i + 1) := by
  have hl := marks_len n k
  rw [List.drop_eq_getElem_cons (by omega), ← marks_get n i k h]
  exact take_set_next _ _ _ (by omega) _ _

theorem k_laws_markFloat32S {P : Program} {f : FuncId} (h : Is_laws_markFloat32S P f) : C_laws_markFloat32S P f := by
  intro xs k hk hx
  refine q_laws_markFloat32S h xs k ⟨?_, fun _ => ⟨⟨(marks_len _ _).symm, trivial⟩, fun _ => rfl⟩⟩
  refine for_up (e := .exit 0) xs.length (fun i => h_laws_markFloat32S_L0 xs k ((marksM xs.length k).take i ++ xs.drop i) (k + i) i) (by simp) (fun i hi => ?_) ?_
  · refine q_laws_markFloat32S_L0 _ _ _ _ _ ⟨fun _ => ⟨trivial, fun _ => ⟨by simp [marks_len]; omega, fun _ => ⟨rfl, fun _ => ?_⟩⟩⟩, fun h => absurd h (by simp [marks_len]; omega)⟩
    show _ = _
    rw [wrap64_id (by omega) (by omega), wrap64_id (by omega) (by omega)]
    simp only [Int.toNat_natCast, Nat.zero_add, Nat.sub_zero, marks_set xs xs.length i k hi rfl]
    rw [Int.add_assoc]; rfl
  · refine q_laws_markFloat32S_L0 _ _ _ _ _ ⟨fun h => absurd h (by simp [marks_len]), fun _ => ?_⟩
    have : (marksM xs.length k).take xs.length = marksM xs.length k := List.take_of_length_le (by rw [marks_len]; exact Nat.le_refl _)
    simp [T.ok, this]

-- FN laws_heldFloat32S
/-- laws.heldFloat32S: slots 22, results [.t 4]; calls []; names [(a, 0), (k, 1), (a, 2), (k, 3), (i, 5)] -/
def ps_laws_heldFloat32S : List Nat := [0, 1, 4, 5, 9, 18]
def lv_laws_heldFloat32S_L0 : List Nat := [0, 1, 5]
def b_laws_heldFloat32S_L0 : VCode :=
  (.seq
   (.seq
    (.region false [
     ⟨some 6, .mv, [.t 5], none⟩,
     ⟨some 7, .mv, [.t 0], none⟩,
     ⟨some 8, .len, [.t 7], none⟩,
     ⟨some 9, (.bin .lss), [.t 6, .t 8], none⟩])
    (.cond (.t 9)
     .skip
     (.exit 0)))
   (.seq
    (.block 1
     (.seq
      (.seq
       (.region false [
        ⟨some 12, .mv, [.t 0], none⟩,
        ⟨some 13, .mv, [.t 5], none⟩,
        ⟨some 14, .iaddr, [.t 12, .t 13], none⟩,
        ⟨some 15, .load, [.t 14], none⟩,
        ⟨some 16, .mv, [.t 1], none⟩,
        ⟨some 17, (.convF .f32), [.t 16], none⟩,
        ⟨some 18, (.bin .neq), [.t 15, .t 17], none⟩])
       (.cond (.t 18)
        (.seq
         (.region false [
          ⟨some 4, .mv, [.k (.i .i64 (-1))], none⟩])
         .ret)
        .skip))
      (.region false [
       ⟨some 19, .mv, [.t 1], none⟩,
       ⟨some 20, (.bin .add), [.t 19, .k (.i .i64 1)], none⟩,
       ⟨some 1, .mv, [.t 20], none⟩])))
    (.region false [
     ⟨some 10, .mv, [.t 5], none⟩,
     ⟨some 11, (.bin .add), [.t 10, .k (.i .i64 1)], none⟩,
     ⟨some 5, .mv, [.t 11], none⟩])))

def b_laws_heldFloat32S : VCode :=
  (.seq
   (.region false [
    ⟨some 4, .mv, [.k (.i .i64 0)], none⟩])
   (.seq
    (.seq
     (.region false [
      ⟨some 5, .mv, [.k (.i .i64 0)], none⟩])
     (.block 0 (.loop b_laws_heldFloat32S_L0)))
    (.seq
     (.region false [
      ⟨some 21, .mv, [.t 1], none⟩,
      ⟨some 4, .mv, [.t 21], none⟩])
     .ret)))

abbrev Is_laws_heldFloat32S (P : Program) (g_f : FuncId) : Prop := FnIs P g_f 22 [.t 4] (b_laws_heldFloat32S)

abbrev C_laws_heldFloat32S (P : Program) (g_f : FuncId) : Prop := ∀ (xs : List Nat) (k : Int) (n : Nat) (he : xs = marksM n k) (hk : 0 ≤ k ∧ k ≤ 4294967296) (hn : n ≤ 4294967296), VCall P g_f [PS [0] .f32 xs, .i .i64 k] (.i .i64 (k + xs.length))
def oc1_laws_heldFloat32S (as : List AV) : T AV := match as with | [.sl _ _ (.f .f32 xs), .i .i64 k] => .leaf (.i .i64 (k + xs.length)) | _ => .fail
def h_laws_heldFloat32S_L0 (xs : List Nat) (k : Int) (n : Nat) (k2 : Int) (i : Int) : Env := [AV.sl (Tag.par [0]) 0 (Cont.f FloatKind.f32 xs), .i IntKind.i64 k2, .any, .any, .any, .i IntKind.i64 i] ++ anys 16

theorem q_laws_heldFloat32S_L0 {VC : FuncId → List AV → AV → Prop} (xs : List Nat) (k : Int) (n : Nat) (k2 : Int) (i : Int) {e_ : Ex} {σ_ : Env} (ht : T.ok (fun x_ => x_ = (e_, σ_)) (
      T.ite (decide (i < (↑(List.length xs) : Int)))
        (T.ob (0 ≤ i ∧ i < (↑(List.length xs) : Int))
          (T.ob True
            (T.ite (fne FloatKind.f32 (List.getD xs (Int.toNat i) 0) (fofi FloatKind.f32 k2)) (T.leaf (Ex.ret, anys 4 ++ AV.i IntKind.i64 (-1) :: anys 17))
              (T.leaf (Ex.normal, h_laws_heldFloat32S_L0 xs k n (IntKind.wrap IntKind.i64 (k2 + 1)) (IntKind.wrap IntKind.i64 (i + 1)))))))
        (T.leaf (Ex.exit 0, h_laws_heldFloat32S_L0 xs k n k2 i)))) :
    Exec VC ps_laws_heldFloat32S (b_laws_heldFloat32S_L0) (h_laws_heldFloat32S_L0 xs k n k2 i) e_ σ_ := evL_of (lv := lv_laws_heldFloat32S_L0) (rs := [4]) (O := ⟨fun _ _ => .fail, fun _ _ => none⟩) (by kernel_rfl) ht

theorem q_laws_heldFloat32S {P : Program} {g_f : FuncId} (h_ : Is_laws_heldFloat32S P g_f) (xs : List Nat) (k : Int) (n : Nat) (ht : T.ok (fun x_ => x_ = .i .i64 (k + xs.length)) (
      T.ob
        (Exec (VCall P) ps_laws_heldFloat32S (VCode.block 0 (VCode.loop b_laws_heldFloat32S_L0)) (h_laws_heldFloat32S_L0 xs k n k 0) Ex.normal (h_laws_heldFloat32S_L0 xs k n (k + (↑(List.length xs) : Int)) (↑(List.length xs) : Int)))
        (T.leaf (AV.i IntKind.i64 (k + (↑(List.length xs) : Int)))))) :
    VCall P g_f [PS [0] .f32 xs, .i .i64 k] (.i .i64 (k + xs.length)) := h_.call_of ps_laws_heldFloat32S ⟨fun _ _ => .fail, fun id σ => match id with | 0 => some (lv_laws_heldFloat32S_L0, .leaf (.normal, h_laws_heldFloat32S_L0 xs k n (k + xs.length) xs.length)) | _ => none⟩ (by kernel_rfl) ht

-- END laws_heldFloat32S


theorem k_laws_heldFloat32S {P : Program} {f : FuncId} (h : Is_laws_heldFloat32S P f) : C_laws_heldFloat32S P f := by
  rintro xs k n rfl hk hn
  have hl := marks_len n k
  refine q_laws_heldFloat32S h _ k n ⟨?_, fun _ => rfl⟩
  refine for_up (e := .exit 0) n (fun i => h_laws_heldFloat32S_L0 (marksM n k) k n (k + i) i) (by simp) (fun i hi => ?_) ?_
  · refine q_laws_heldFloat32S_L0 _ _ _ _ _ ⟨fun _ => ⟨by omega, fun _ => ⟨trivial, fun _ => ⟨fun h => ?_, fun _ => ?_⟩⟩⟩, fun h => absurd h (by simp [hl]; omega)⟩
    · rw [getD_nat, marks_get n i k hi, fofi_fne] at h; cases h
    · show _ = _
      rw [wrap64_id (by omega) (by omega), wrap64_id (by omega) (by omega), Int.add_assoc]; rfl
  · refine q_laws_heldFloat32S_L0 _ _ _ _ _ ⟨fun h => absurd h (by simp [hl]), fun _ => ?_⟩
    simp [T.ok, hl]

end Go.Proofs.LV
