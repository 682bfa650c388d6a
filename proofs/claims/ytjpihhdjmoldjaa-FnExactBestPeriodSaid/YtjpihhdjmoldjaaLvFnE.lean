/- Smoothing: levels, needs, lines of levels, guesses. -/
import Derived.Test.YtjpihhdjmoldjaaLvFnD
namespace Go.Proofs.LV
open Go
set_option linter.unusedVariables false
set_option linter.unusedSimpArgs false

/-! ### tables and sums -/
/-- f 0 to f (n - 1) -/
def tab {α : Type} (n : Nat) (f : Nat → α) : List α := (List.range n).map f
theorem tab_len {α : Type} (n : Nat) (f : Nat → α) : (tab n f).length = n := by simp [tab]
theorem tab_succ {α : Type} (n : Nat) (f : Nat → α) : tab (n + 1) f = tab n f ++ [f n] := by simp [tab, List.range_succ]
theorem tab_get {α : Type} (n : Nat) (f : Nat → α) (i : Nat) (d : α) (h : i < n) : (tab n f).getD i d = f i := by
  simp [tab, List.getD, h]
theorem tab_congr {α : Type} {n : Nat} {f g : Nat → α} (h : ∀ i, i < n → f i = g i) : tab n f = tab n g := by
  unfold tab
  refine List.map_congr_left fun i hi => h i (by simpa using hi)
/-- n steps, from the first -/
def accN {α : Type} (f : Nat → α → α) : Nat → α → α
  | 0, a => a
  | n + 1, a => f n (accN f n a)
theorem accN_congr {α : Type} {f g : Nat → α → α} {a : α} : ∀ {n : Nat}, (∀ i x, i < n → f i x = g i x) → accN f n a = accN g n a
  | 0, _ => rfl
  | n + 1, h => by
    simp only [accN]
    rw [accN_congr (n := n) (fun i x hi => h i x (by omega)), h n _ (by omega)]
theorem getD_drop' {α : Type} (xs : List α) (k i : Nat) (d : α) : (xs.drop k).getD i d = xs.getD (k + i) d := by
  simp [List.getD]

theorem finM_nan {x : Nat} (h : finM x = true) : nanB .f32 x = false := by
  cases hn : nanB .f32 x with
  | false => rfl
  | true =>
    have : fsub .f32 x x = fnan .f32 := by
      unfold nanB Ieee.Datum.isNaN at hn
      unfold fsub Ieee.Format.sub
      cases hr : FloatKind.f32.format.read x <;> simp [hr] at hn
      simp [Ieee.Datum.sum]
    unfold finM at h
    rw [this, feq_eq, nanB_fnan] at h
    simp at h

def stepLev (s o x : Nat) : Nat := fadd .f32 o (fmul .f32 s (fsub .f32 x o))
def levN (xs : List Nat) (s : Nat) : Nat → Nat
  | 0 => xs.getD 0 0
  | n + 1 => stepLev s (levN xs s n) (xs.getD (n + 1) 0)
def levsM (xs : List Nat) (s : Nat) : List Nat := tab xs.length (levN xs s)
def levOk (xs : List Nat) (s : Nat) : Bool := seriesM xs && (isShareM s && finAllM (levsM xs s))
def levOut (xs : List Nat) (s : Nat) : List Nat := if levOk xs s = true then levsM xs s else []

/-- impl.simpleLevels: slots 38, results [.t 4]; calls []; names [(list, 0), (share, 1), (list, 2), (share, 3), (out, 5), (i, 6), (x, 7)] -/
def ps_impl_simpleLevels : List Nat := [0, 1, 4, 5, 6, 7, 13, 14, 15, 16]
def lv_impl_simpleLevels_L0 : List Nat := [1, 5, 13, 14, 15]
def b_impl_simpleLevels_L0 : VCode :=
  (.seq
   (.region false [
    ⟨some 16, (.bin .lss), [.t 15, .t 14], none⟩])
   (.seq
    (.cond (.t 16)
     .skip
     (.exit 0))
    (.seq
     (.block 1
      (.seq
       (.region false [
        ⟨some 17, .mv, [.t 15], none⟩,
        ⟨some 18, .iaddr, [.t 13, .t 15], none⟩,
        ⟨some 19, .load, [.t 18], none⟩,
        ⟨some 6, .mv, [.t 17], none⟩,
        ⟨some 7, .mv, [.t 19], none⟩])
       (.region true [
        ⟨some 20, .mv, [.t 5], none⟩,
        ⟨some 21, .mv, [.t 5], none⟩,
        ⟨some 22, .mv, [.t 6], none⟩,
        ⟨some 23, .iaddr, [.t 21, .t 22], none⟩,
        ⟨some 24, .load, [.t 23], none⟩,
        ⟨some 25, .mv, [.t 1], none⟩,
        ⟨some 26, .mv, [.t 7], none⟩,
        ⟨some 27, .mv, [.t 5], none⟩,
        ⟨some 28, .mv, [.t 6], none⟩,
        ⟨some 29, .iaddr, [.t 27, .t 28], none⟩,
        ⟨some 30, .load, [.t 29], none⟩,
        ⟨some 31, (.bin .sub), [.t 26, .t 30], none⟩,
        ⟨some 32, (.bin .mul), [.t 25, .t 31], none⟩,
        ⟨some 33, (.bin .add), [.t 24, .t 32], none⟩,
        ⟨some 34, (.lit true (.f .f32 [])), [.t 33], none⟩,
        ⟨some 35, .app, [.t 20, .t 34], none⟩,
        ⟨some 5, .mv, [.t 35], none⟩])))
     (.region false [
      ⟨some 36, (.bin .add), [.t 15, .k (.i .i64 1)], none⟩,
      ⟨some 15, .mv, [.t 36], none⟩]))))

def b_impl_simpleLevels : VCode :=
  (.seq
   (.region false [
    ⟨some 4, (.nilsl (.f .f32 [])), [], none⟩])
   (.seq
    (.region false [
     ⟨some 8, .mv, [.t 0], none⟩,
     ⟨some 9, .iaddr, [.t 8, .k (.i .i64 0)], none⟩,
     ⟨some 10, .load, [.t 9], none⟩,
     ⟨some 11, (.lit true (.f .f32 [])), [.t 10], none⟩,
     ⟨some 5, .mv, [.t 11], none⟩])
    (.seq
     (.seq
      (.region false [
       ⟨some 12, .mv, [.t 0], none⟩,
       ⟨some 13, (.slice true false false), [.t 12, .k (.i .i64 1)], none⟩,
       ⟨some 14, .len, [.t 13], none⟩,
       ⟨some 15, .mv, [.k (.i .i64 0)], none⟩])
      (.block 0 (.loop b_impl_simpleLevels_L0)))
     (.seq
      (.region false [
       ⟨some 37, .mv, [.t 5], none⟩,
       ⟨some 4, .mv, [.t 37], none⟩])
      .ret))))

abbrev Is_impl_simpleLevels (P : Program) (g_f : FuncId) : Prop := FnIs P g_f 38 [.t 4] (b_impl_simpleLevels)

abbrev C_impl_simpleLevels (P : Program) (g_f : FuncId) : Prop := ∀ (xs : List Nat) (s : Nat) (hn : 1 ≤ xs.length) (hx : xs.length ≤ 96), VCall P g_f [PS [0] .f32 xs, .f .f32 s] (OS 0 .f32 (levsM xs s))
def oc1_impl_simpleLevels (as : List AV) : T AV := match as with | [.sl _ _ (.f .f32 xs), .f .f32 s] => .leaf (OS 0 .f32 (levsM xs s)) | _ => .fail
def h_impl_simpleLevels_L0 (xs : List Nat) (s : Nat) (out : List Nat) (v15 : Int) : Env := [.any, AV.f FloatKind.f32 s, .any, .any, .any, .sl (Tag.own 88) 0 (.f FloatKind.f32 out)] ++ anys 7 ++ [AV.sl (Tag.par [0]) 1 (Cont.f FloatKind.f32 (List.take (List.length xs - 1) (List.drop 1 xs))), AV.i IntKind.i64 (↑(List.length (List.take (List.length xs - 1) (List.drop 1 xs))) : Int), .i IntKind.i64 v15] ++ anys 22

theorem q_impl_simpleLevels_L0 {VC : FuncId → List AV → AV → Prop} (xs : List Nat) (s : Nat) (out : List Nat) (v15 : Int) {e_ : Ex} {σ_ : Env} (ht : T.ok (fun x_ => x_ = (e_, σ_)) (
      T.ite (decide (v15 < (↑(List.length (List.take (List.length xs - 1) (List.drop 1 xs))) : Int)))
        (T.ob (0 ≤ v15 ∧ v15 < (↑(List.length (List.take (List.length xs - 1) (List.drop 1 xs))) : Int))
          (T.ob (0 ≤ v15 ∧ v15 < (↑(List.length out) : Int))
            (T.ob (0 ≤ v15 ∧ v15 < (↑(List.length out) : Int))
              (T.ob
                (List.length out +
                    List.length
                      [fadd FloatKind.f32 (List.getD out (Int.toNat v15) 0)
                          (fmul FloatKind.f32 s (fsub FloatKind.f32 (List.getD (List.take (List.length xs - 1) (List.drop 1 xs)) (Int.toNat v15) 0) (List.getD out (Int.toNat v15) 0)))] ≤
                  4294967296)
                (T.leaf
                  (Ex.normal,
                    h_impl_simpleLevels_L0 xs s
                      (out ++
                        [fadd FloatKind.f32 (List.getD out (Int.toNat v15) 0)
                            (fmul FloatKind.f32 s (fsub FloatKind.f32 (List.getD (List.take (List.length xs - 1) (List.drop 1 xs)) (Int.toNat v15) 0) (List.getD out (Int.toNat v15) 0)))])
                      (IntKind.wrap IntKind.i64 (v15 + 1))))))))
        (T.leaf (Ex.exit 0, h_impl_simpleLevels_L0 xs s out v15)))) :
    Exec VC ps_impl_simpleLevels (b_impl_simpleLevels_L0) (h_impl_simpleLevels_L0 xs s out v15) e_ σ_ := evL_of (lv := lv_impl_simpleLevels_L0) (rs := [4]) (O := ⟨fun _ _ => .fail, fun _ _ => none⟩) (by kernel_rfl) ht

theorem q_impl_simpleLevels {P : Program} {g_f : FuncId} (h_ : Is_impl_simpleLevels P g_f) (xs : List Nat) (s : Nat) (ht : T.ok (fun x_ => x_ = OS 0 .f32 (levsM xs s)) (
      T.ob ((0 : Int) ≤ 0 ∧ 0 < (↑(List.length xs) : Int))
        (T.ob ((0 : Int) ≤ 1 ∧ 1 ≤ (↑(List.length xs) : Int))
          (T.ob
            (Exec (VCall P) ps_impl_simpleLevels (VCode.block 0 (VCode.loop b_impl_simpleLevels_L0)) (h_impl_simpleLevels_L0 xs s [List.getD xs 0 0] 0) Ex.normal
              (h_impl_simpleLevels_L0 xs s (levsM xs s) (↑(List.length xs - 1) : Int)))
            (T.leaf (AV.sl (Tag.own 0) 0 (Cont.f FloatKind.f32 (levsM xs s)))))))) :
    VCall P g_f [PS [0] .f32 xs, .f .f32 s] (OS 0 .f32 (levsM xs s)) := h_.call_of ps_impl_simpleLevels ⟨fun _ _ => .fail, fun id σ => match id with | 0 => some (lv_impl_simpleLevels_L0, .leaf (.normal, h_impl_simpleLevels_L0 xs s (levsM xs s) (xs.length - 1 : Nat))) | _ => none⟩ (by kernel_rfl) ht


/-- spec.l04Levels: slots 39, results [.t 4]; calls []; names [(list, 0), (share, 1), (list, 2), (share, 3), (out, 5), (i, 6)] -/
def ps_spec_l04Levels : List Nat := [0, 1, 4, 5, 6, 14]
def lv_spec_l04Levels_L0 : List Nat := [0, 1, 5, 6]
def b_spec_l04Levels_L0 : VCode :=
  (.seq
   (.seq
    (.region false [
     ⟨some 11, .mv, [.t 6], none⟩,
     ⟨some 12, .mv, [.t 0], none⟩,
     ⟨some 13, .len, [.t 12], none⟩,
     ⟨some 14, (.bin .lss), [.t 11, .t 13], none⟩])
    (.cond (.t 14)
     .skip
     (.exit 0)))
   (.seq
    (.block 1
     (.region true [
      ⟨some 17, .mv, [.t 5], none⟩,
      ⟨some 18, .mv, [.t 5], none⟩,
      ⟨some 19, .mv, [.t 6], none⟩,
      ⟨some 20, (.bin .sub), [.t 19, .k (.i .i64 1)], none⟩,
      ⟨some 21, .iaddr, [.t 18, .t 20], none⟩,
      ⟨some 22, .load, [.t 21], none⟩,
      ⟨some 23, .mv, [.t 1], none⟩,
      ⟨some 24, .mv, [.t 0], none⟩,
      ⟨some 25, .mv, [.t 6], none⟩,
      ⟨some 26, .iaddr, [.t 24, .t 25], none⟩,
      ⟨some 27, .load, [.t 26], none⟩,
      ⟨some 28, .mv, [.t 5], none⟩,
      ⟨some 29, .mv, [.t 6], none⟩,
      ⟨some 30, (.bin .sub), [.t 29, .k (.i .i64 1)], none⟩,
      ⟨some 31, .iaddr, [.t 28, .t 30], none⟩,
      ⟨some 32, .load, [.t 31], none⟩,
      ⟨some 33, (.bin .sub), [.t 27, .t 32], none⟩,
      ⟨some 34, (.bin .mul), [.t 23, .t 33], none⟩,
      ⟨some 35, (.bin .add), [.t 22, .t 34], none⟩,
      ⟨some 36, (.lit true (.f .f32 [])), [.t 35], none⟩,
      ⟨some 37, .app, [.t 17, .t 36], none⟩,
      ⟨some 5, .mv, [.t 37], none⟩]))
    (.region false [
     ⟨some 15, .mv, [.t 6], none⟩,
     ⟨some 16, (.bin .add), [.t 15, .k (.i .i64 1)], none⟩,
     ⟨some 6, .mv, [.t 16], none⟩])))

def b_spec_l04Levels : VCode :=
  (.seq
   (.region false [
    ⟨some 4, (.nilsl (.f .f32 [])), [], none⟩])
   (.seq
    (.region false [
     ⟨some 7, .mv, [.t 0], none⟩,
     ⟨some 8, .iaddr, [.t 7, .k (.i .i64 0)], none⟩,
     ⟨some 9, .load, [.t 8], none⟩,
     ⟨some 10, (.lit true (.f .f32 [])), [.t 9], none⟩,
     ⟨some 5, .mv, [.t 10], none⟩])
    (.seq
     (.seq
      (.region false [
       ⟨some 6, .mv, [.k (.i .i64 1)], none⟩])
      (.block 0 (.loop b_spec_l04Levels_L0)))
     (.seq
      (.region false [
       ⟨some 38, .mv, [.t 5], none⟩,
       ⟨some 4, .mv, [.t 38], none⟩])
      .ret))))

abbrev Is_spec_l04Levels (P : Program) (g_f : FuncId) : Prop := FnIs P g_f 39 [.t 4] (b_spec_l04Levels)

abbrev C_spec_l04Levels (P : Program) (g_f : FuncId) : Prop := ∀ (xs : List Nat) (s : Nat) (hn : 1 ≤ xs.length) (hx : xs.length ≤ 96), VCall P g_f [PS [0] .f32 xs, .f .f32 s] (OS 0 .f32 (levsM xs s))
def oc1_spec_l04Levels (as : List AV) : T AV := match as with | [.sl _ _ (.f .f32 xs), .f .f32 s] => .leaf (OS 0 .f32 (levsM xs s)) | _ => .fail
def h_spec_l04Levels_L0 (xs : List Nat) (s : Nat) (out : List Nat) (i : Int) : Env := [AV.sl (Tag.par [0]) 0 (Cont.f FloatKind.f32 xs), AV.f FloatKind.f32 s, .any, .any, .any, .sl (Tag.own 80) 0 (.f FloatKind.f32 out), .i IntKind.i64 i] ++ anys 32

theorem q_spec_l04Levels_L0 {VC : FuncId → List AV → AV → Prop} (xs : List Nat) (s : Nat) (out : List Nat) (i : Int) {e_ : Ex} {σ_ : Env} (ht : T.ok (fun x_ => x_ = (e_, σ_)) (
      T.ite (decide (i < (↑(List.length xs) : Int)))
        (T.ob (0 ≤ IntKind.wrap IntKind.i64 (i - 1) ∧ IntKind.wrap IntKind.i64 (i - 1) < (↑(List.length out) : Int))
          (T.ob (0 ≤ i ∧ i < (↑(List.length xs) : Int))
            (T.ob (0 ≤ IntKind.wrap IntKind.i64 (i - 1) ∧ IntKind.wrap IntKind.i64 (i - 1) < (↑(List.length out) : Int))
              (T.ob
                (List.length out +
                    List.length
                      [fadd FloatKind.f32 (List.getD out (Int.toNat (IntKind.wrap IntKind.i64 (i - 1))) 0)
                          (fmul FloatKind.f32 s (fsub FloatKind.f32 (List.getD xs (Int.toNat i) 0) (List.getD out (Int.toNat (IntKind.wrap IntKind.i64 (i - 1))) 0)))] ≤
                  4294967296)
                (T.leaf
                  (Ex.normal,
                    h_spec_l04Levels_L0 xs s
                      (out ++
                        [fadd FloatKind.f32 (List.getD out (Int.toNat (IntKind.wrap IntKind.i64 (i - 1))) 0)
                            (fmul FloatKind.f32 s (fsub FloatKind.f32 (List.getD xs (Int.toNat i) 0) (List.getD out (Int.toNat (IntKind.wrap IntKind.i64 (i - 1))) 0)))])
                      (IntKind.wrap IntKind.i64 (i + 1))))))))
        (T.leaf (Ex.exit 0, h_spec_l04Levels_L0 xs s out i)))) :
    Exec VC ps_spec_l04Levels (b_spec_l04Levels_L0) (h_spec_l04Levels_L0 xs s out i) e_ σ_ := evL_of (lv := lv_spec_l04Levels_L0) (rs := [4]) (O := ⟨fun _ _ => .fail, fun _ _ => none⟩) (by kernel_rfl) ht

theorem q_spec_l04Levels {P : Program} {g_f : FuncId} (h_ : Is_spec_l04Levels P g_f) (xs : List Nat) (s : Nat) (ht : T.ok (fun x_ => x_ = OS 0 .f32 (levsM xs s)) (
      T.ob ((0 : Int) ≤ 0 ∧ 0 < (↑(List.length xs) : Int))
        (T.ob (Exec (VCall P) ps_spec_l04Levels (VCode.block 0 (VCode.loop b_spec_l04Levels_L0)) (h_spec_l04Levels_L0 xs s [List.getD xs 0 0] 1) Ex.normal (h_spec_l04Levels_L0 xs s (levsM xs s) (↑(List.length xs) : Int)))
          (T.leaf (AV.sl (Tag.own 0) 0 (Cont.f FloatKind.f32 (levsM xs s))))))) :
    VCall P g_f [PS [0] .f32 xs, .f .f32 s] (OS 0 .f32 (levsM xs s)) := h_.call_of ps_spec_l04Levels ⟨fun _ _ => .fail, fun id σ => match id with | 0 => some (lv_spec_l04Levels_L0, .leaf (.normal, h_spec_l04Levels_L0 xs s (levsM xs s) xs.length)) | _ => none⟩ (by kernel_rfl) ht


/-- impl.SimpleLevels: slots 20, results [.t 4, .t 5]; calls [7:g_impl_IsSeries, 11:g_impl_isShare, 16:g_impl_simpleLevels, 17:g_impl_ifAll]; names [(list, 0), (share, 1), (list, 2), (share, 3)] -/
def ps_impl_SimpleLevels : List Nat := [0, 1, 4, 5, 13]
def b_impl_SimpleLevels (g_impl_IsSeries g_impl_isShare g_impl_simpleLevels g_impl_ifAll : FuncId) : VCode :=
  (.seq
   (.region false [
    ⟨some 4, (.nilsl (.f .f32 [])), [], none⟩,
    ⟨some 5, .mv, [.k (.b false)], none⟩])
   (.seq
    (.seq
     (.region false [
      ⟨some 6, .mv, [.t 0], none⟩,
      ⟨some 7, (.call g_impl_IsSeries), [.t 6], none⟩,
      ⟨some 8, .not, [.t 7], none⟩,
      ⟨some 9, .mv, [.t 8], none⟩,
      ⟨some 10, .mv, [.t 1], some (9, false)⟩,
      ⟨some 11, (.call g_impl_isShare), [.t 10], some (9, false)⟩,
      ⟨some 12, .not, [.t 11], some (9, false)⟩,
      ⟨some 13, .pick, [.t 9, .k (.b true), .t 12], none⟩])
     (.cond (.t 13)
      (.seq
       (.region false [
        ⟨some 4, (.nilsl (.f .f32 [])), [], none⟩,
        ⟨some 5, .mv, [.k (.b false)], none⟩])
       .ret)
      .skip))
    (.seq
     (.region false [
      ⟨some 14, .mv, [.t 0], none⟩,
      ⟨some 15, .mv, [.t 1], none⟩,
      ⟨some 16, (.call g_impl_simpleLevels), [.t 14, .t 15], none⟩,
      ⟨some 17, (.call g_impl_ifAll), [.t 16], none⟩,
      ⟨some 18, (.extract 0), [.t 17], none⟩,
      ⟨some 19, (.extract 1), [.t 17], none⟩,
      ⟨some 4, .mv, [.t 18], none⟩,
      ⟨some 5, .mv, [.t 19], none⟩])
     .ret)))

abbrev Is_impl_SimpleLevels (P : Program) (g_f : FuncId) (g_impl_IsSeries g_impl_isShare g_impl_simpleLevels g_impl_ifAll : FuncId) : Prop := FnIs P g_f 20 [.t 4, .t 5] (b_impl_SimpleLevels g_impl_IsSeries g_impl_isShare g_impl_simpleLevels g_impl_ifAll)

abbrev C_impl_SimpleLevels (P : Program) (g_f : FuncId) : Prop := ∀ (xs : List Nat) (s : Nat) (hx : xs.length ≤ maxLen), VCall P g_f [PS [0] .f32 xs, .f .f32 s] (.tup [OS 0 .f32 (levOut xs s), .b (levOk xs s)])
def oc1_impl_SimpleLevels (as : List AV) : T AV := match as with | [.sl _ _ (.f .f32 xs), .f .f32 s] => .leaf (.tup [OS 0 .f32 (levOut xs s), .b (levOk xs s)]) | _ => .fail
def oc_impl_SimpleLevels (xs : List Nat) (s : Nat) (d : Nat) (as : List AV) : T AV := match d with | 7 => oc1_impl_IsSeries as | 11 => oc1_impl_isShare as | 16 => oc1_impl_simpleLevels as | 17 => oc1_impl_ifAll as | _ => .fail



theorem q_impl_SimpleLevels {P : Program} {g_f : FuncId} {g_impl_IsSeries g_impl_isShare g_impl_simpleLevels g_impl_ifAll : FuncId} (h_ : Is_impl_SimpleLevels P g_f g_impl_IsSeries g_impl_isShare g_impl_simpleLevels g_impl_ifAll) (xs : List Nat) (s : Nat) (ht : T.ok (fun x_ => x_ = .tup [OS 0 .f32 (levOut xs s), .b (levOk xs s)]) (
      T.ob ((VCall P) g_impl_IsSeries [AV.sl (Tag.par [0]) 0 (Cont.f FloatKind.f32 xs)] (AV.b (seriesM xs)))
        (T.ite (!seriesM xs) (T.leaf (AV.tup [AV.sl (Tag.own 0) 0 (Cont.f FloatKind.f32 []), AV.b false]))
          (T.ob ((VCall P) g_impl_isShare [AV.f FloatKind.f32 s] (AV.b (isShareM s)))
            (T.ite (!isShareM s) (T.leaf (AV.tup [AV.sl (Tag.own 0) 0 (Cont.f FloatKind.f32 []), AV.b false]))
              (T.ob ((VCall P) g_impl_simpleLevels [AV.sl (Tag.par [0]) 0 (Cont.f FloatKind.f32 xs), AV.f FloatKind.f32 s] (AV.sl (Tag.own 0) 0 (Cont.f FloatKind.f32 (levsM xs s))))
                (T.ob ((VCall P) g_impl_ifAll [AV.sl (Tag.par [0]) 0 (Cont.f FloatKind.f32 (levsM xs s))] (AV.tup [AV.sl (Tag.par [0]) 0 (Cont.f FloatKind.f32 (ifAllM (levsM xs s))), AV.b (finAllM (levsM xs s))]))
                  (T.leaf (AV.tup [AV.sl (Tag.own 0) 0 (Cont.f FloatKind.f32 (ifAllM (levsM xs s))), AV.b (finAllM (levsM xs s))]))))))))) :
    VCall P g_f [PS [0] .f32 xs, .f .f32 s] (.tup [OS 0 .f32 (levOut xs s), .b (levOk xs s)]) := h_.call_of ps_impl_SimpleLevels ⟨oc_impl_SimpleLevels xs s, fun _ _ => none⟩ (by kernel_rfl) ht


/-- spec.SimpleLevels: slots 20, results [.t 4, .t 5]; calls [7:g_spec_l02Series, 11:g_spec_l02Share, 16:g_spec_l04Levels, 17:g_spec_l02List]; names [(list, 0), (share, 1), (list, 2), (share, 3)] -/
def ps_spec_SimpleLevels : List Nat := [0, 1, 4, 5, 13]
def b_spec_SimpleLevels (g_spec_l02Series g_spec_l02Share g_spec_l04Levels g_spec_l02List : FuncId) : VCode :=
  (.seq
   (.region false [
    ⟨some 4, (.nilsl (.f .f32 [])), [], none⟩,
    ⟨some 5, .mv, [.k (.b false)], none⟩])
   (.seq
    (.seq
     (.region false [
      ⟨some 6, .mv, [.t 0], none⟩,
      ⟨some 7, (.call g_spec_l02Series), [.t 6], none⟩,
      ⟨some 8, .not, [.t 7], none⟩,
      ⟨some 9, .mv, [.t 8], none⟩,
      ⟨some 10, .mv, [.t 1], some (9, false)⟩,
      ⟨some 11, (.call g_spec_l02Share), [.t 10], some (9, false)⟩,
      ⟨some 12, .not, [.t 11], some (9, false)⟩,
      ⟨some 13, .pick, [.t 9, .k (.b true), .t 12], none⟩])
     (.cond (.t 13)
      (.seq
       (.region false [
        ⟨some 4, (.nilsl (.f .f32 [])), [], none⟩,
        ⟨some 5, .mv, [.k (.b false)], none⟩])
       .ret)
      .skip))
    (.seq
     (.region false [
      ⟨some 14, .mv, [.t 0], none⟩,
      ⟨some 15, .mv, [.t 1], none⟩,
      ⟨some 16, (.call g_spec_l04Levels), [.t 14, .t 15], none⟩,
      ⟨some 17, (.call g_spec_l02List), [.t 16], none⟩,
      ⟨some 18, (.extract 0), [.t 17], none⟩,
      ⟨some 19, (.extract 1), [.t 17], none⟩,
      ⟨some 4, .mv, [.t 18], none⟩,
      ⟨some 5, .mv, [.t 19], none⟩])
     .ret)))

abbrev Is_spec_SimpleLevels (P : Program) (g_f : FuncId) (g_spec_l02Series g_spec_l02Share g_spec_l04Levels g_spec_l02List : FuncId) : Prop := FnIs P g_f 20 [.t 4, .t 5] (b_spec_SimpleLevels g_spec_l02Series g_spec_l02Share g_spec_l04Levels g_spec_l02List)

abbrev C_spec_SimpleLevels (P : Program) (g_f : FuncId) : Prop := ∀ (xs : List Nat) (s : Nat) (hx : xs.length ≤ maxLen), VCall P g_f [PS [0] .f32 xs, .f .f32 s] (.tup [OS 0 .f32 (levOut xs s), .b (levOk xs s)])
def oc1_spec_SimpleLevels (as : List AV) : T AV := match as with | [.sl _ _ (.f .f32 xs), .f .f32 s] => .leaf (.tup [OS 0 .f32 (levOut xs s), .b (levOk xs s)]) | _ => .fail
def oc_spec_SimpleLevels (xs : List Nat) (s : Nat) (d : Nat) (as : List AV) : T AV := match d with | 7 => oc1_spec_l02Series as | 11 => oc1_spec_l02Share as | 16 => oc1_spec_l04Levels as | 17 => oc1_spec_l02List as | _ => .fail



theorem q_spec_SimpleLevels {P : Program} {g_f : FuncId} {g_spec_l02Series g_spec_l02Share g_spec_l04Levels g_spec_l02List : FuncId} (h_ : Is_spec_SimpleLevels P g_f g_spec_l02Series g_spec_l02Share g_spec_l04Levels g_spec_l02List) (xs : List Nat) (s : Nat) (ht : T.ok (fun x_ => x_ = .tup [OS 0 .f32 (levOut xs s), .b (levOk xs s)]) (
      T.ob ((VCall P) g_spec_l02Series [AV.sl (Tag.par [0]) 0 (Cont.f FloatKind.f32 xs)] (AV.b (seriesM xs)))
        (T.ite (!seriesM xs) (T.leaf (AV.tup [AV.sl (Tag.own 0) 0 (Cont.f FloatKind.f32 []), AV.b false]))
          (T.ob ((VCall P) g_spec_l02Share [AV.f FloatKind.f32 s] (AV.b (isShareM s)))
            (T.ite (!isShareM s) (T.leaf (AV.tup [AV.sl (Tag.own 0) 0 (Cont.f FloatKind.f32 []), AV.b false]))
              (T.ob ((VCall P) g_spec_l04Levels [AV.sl (Tag.par [0]) 0 (Cont.f FloatKind.f32 xs), AV.f FloatKind.f32 s] (AV.sl (Tag.own 0) 0 (Cont.f FloatKind.f32 (levsM xs s))))
                (T.ob ((VCall P) g_spec_l02List [AV.sl (Tag.par [0]) 0 (Cont.f FloatKind.f32 (levsM xs s))] (AV.tup [AV.sl (Tag.par [0]) 0 (Cont.f FloatKind.f32 (ifAllM (levsM xs s))), AV.b (finAllM (levsM xs s))]))
                  (T.leaf (AV.tup [AV.sl (Tag.own 0) 0 (Cont.f FloatKind.f32 (ifAllM (levsM xs s))), AV.b (finAllM (levsM xs s))]))))))))) :
    VCall P g_f [PS [0] .f32 xs, .f .f32 s] (.tup [OS 0 .f32 (levOut xs s), .b (levOk xs s)]) := h_.call_of ps_spec_SimpleLevels ⟨oc_spec_SimpleLevels xs s, fun _ _ => none⟩ (by kernel_rfl) ht


theorem drop_all {α : Type} (xs : List α) (k : Nat) : List.take (xs.length - k) (List.drop k xs) = xs.drop k := List.take_of_length_le (by simp)
theorem lev_step (xs : List Nat) (s i n : Nat) (h : i < n) : (tab n (levN xs s)).getD i 0 = levN xs s i := tab_get _ _ _ _ h
theorem k_impl_simpleLevels {P : Program} {f : FuncId} (h : Is_impl_simpleLevels P f) : C_impl_simpleLevels P f := by
  intro xs s hn hx
  refine q_impl_simpleLevels h xs s ⟨by omega, fun _ => ⟨by omega, fun _ => ⟨?_, fun _ => rfl⟩⟩⟩
  refine for_up (e := .exit 0) (xs.length - 1) (fun i => h_impl_simpleLevels_L0 xs s (tab (i + 1) (levN xs s)) i) rfl (fun i hi => ?_) ?_
  · refine q_impl_simpleLevels_L0 _ _ _ _ ?_
    rw [drop_all]
    repeat' (first | with_reducible refine T.ok_ob ?_ (fun _ => ?_) | with_reducible refine T.ok_ite (fun _ => ?_) (fun _ => ?_) | with_reducible refine T.ok_leaf ?_)
    all_goals (try simp only [decide_eq_true_eq, decide_eq_false_iff_not, Bool.not_eq_true', Bool.not_eq_false', Bool.not_eq_eq_eq_not, Bool.not_true, Bool.not_false, Int.toNat_natCast, tab_len, List.length_append, List.length_singleton, List.length_cons, List.length_nil, List.length_drop, List.length_take, getD_drop', getD_nat] at *)
    all_goals (try simp (disch := omega) only [wrap64_id] at *)
    all_goals first | omega | (exfalso; omega) | trivial | contradiction | (exfalso; simp_all; done) | skip
    rw [lev_step _ _ _ _ (by omega), Nat.add_comm 1 i, ← stepLev]
    show _ = (Ex.normal, h_impl_simpleLevels_L0 xs s (tab (i + 1 + 1) (levN xs s)) (i + 1 : Nat))
    rw [tab_succ (i + 1)]; rfl
  · refine q_impl_simpleLevels_L0 _ _ _ _ ?_
    rw [drop_all]
    repeat' (first | with_reducible refine T.ok_ob ?_ (fun _ => ?_) | with_reducible refine T.ok_ite (fun _ => ?_) (fun _ => ?_) | with_reducible refine T.ok_leaf ?_)
    all_goals (try simp only [decide_eq_true_eq, decide_eq_false_iff_not, Bool.not_eq_true', Bool.not_eq_false', Bool.not_eq_eq_eq_not, Bool.not_true, Bool.not_false, Int.toNat_natCast, tab_len, List.length_append, List.length_singleton, List.length_cons, List.length_nil, List.length_drop, List.length_take, getD_drop', getD_nat] at *)
    all_goals (try simp (disch := omega) only [wrap64_id] at *)
    all_goals first | omega | (exfalso; omega) | trivial | contradiction | (exfalso; simp_all; done) | skip
    rw [show xs.length - 1 + 1 = xs.length by omega]; rfl
theorem k_spec_l04Levels {P : Program} {f : FuncId} (h : Is_spec_l04Levels P f) : C_spec_l04Levels P f := by
  intro xs s hn hx
  refine q_spec_l04Levels h xs s ⟨by omega, fun _ => ⟨?_, fun _ => rfl⟩⟩
  refine for_up (e := .exit 0) (xs.length - 1) (fun i => h_spec_l04Levels_L0 xs s (tab (i + 1) (levN xs s)) (i + 1 : Nat)) rfl (fun i hi => ?_) ?_
  · refine q_spec_l04Levels_L0 _ _ _ _ ?_
    rw [wrap64_id (by omega) (by omega), show ((i + 1 : Nat) : Int) - 1 = i by omega]
    repeat' (first | with_reducible refine T.ok_ob ?_ (fun _ => ?_) | with_reducible refine T.ok_ite (fun _ => ?_) (fun _ => ?_) | with_reducible refine T.ok_leaf ?_)
    all_goals (try simp only [decide_eq_true_eq, decide_eq_false_iff_not, Bool.not_eq_true', Bool.not_eq_false', Bool.not_eq_eq_eq_not, Bool.not_true, Bool.not_false, Int.toNat_natCast, tab_len, List.length_append, List.length_singleton, List.length_cons, List.length_nil, List.length_drop, List.length_take, getD_drop', getD_nat] at *)
    all_goals (try simp (disch := omega) only [wrap64_id] at *)
    all_goals first | omega | (exfalso; omega) | trivial | contradiction | (exfalso; simp_all; done) | skip
    rw [lev_step _ _ _ _ (by omega), ← stepLev]
    show _ = (Ex.normal, h_spec_l04Levels_L0 xs s (tab (i + 1 + 1) (levN xs s)) (i + 1 + 1 : Nat))
    rw [tab_succ (i + 1)]; rfl
  · refine q_spec_l04Levels_L0 _ _ _ _ ?_
    rw [show xs.length - 1 + 1 = xs.length by omega]
    repeat' (first | with_reducible refine T.ok_ob ?_ (fun _ => ?_) | with_reducible refine T.ok_ite (fun _ => ?_) (fun _ => ?_) | with_reducible refine T.ok_leaf ?_)
    all_goals (try simp only [decide_eq_true_eq, decide_eq_false_iff_not, Bool.not_eq_true', Bool.not_eq_false', Bool.not_eq_eq_eq_not, Bool.not_true, Bool.not_false, Int.toNat_natCast, tab_len, List.length_append, List.length_singleton, List.length_cons, List.length_nil, List.length_drop, List.length_take, getD_drop', getD_nat] at *)
    all_goals (try simp (disch := omega) only [wrap64_id] at *)
    all_goals first | omega | (exfalso; omega) | trivial | contradiction | (exfalso; simp_all; done) | skip
theorem levs_len (xs : List Nat) (s : Nat) : (levsM xs s).length = xs.length := tab_len _ _
theorem k_impl_SimpleLevels {P : Program} {f g_impl_IsSeries g_impl_isShare g_impl_simpleLevels g_impl_ifAll : FuncId} (h : Is_impl_SimpleLevels P f g_impl_IsSeries g_impl_isShare g_impl_simpleLevels g_impl_ifAll) (c1 : C_impl_IsSeries P g_impl_IsSeries) (c2 : C_impl_isShare P g_impl_isShare) (c3 : C_impl_simpleLevels P g_impl_simpleLevels) (c4 : C_impl_ifAll P g_impl_ifAll) : C_impl_SimpleLevels P f := by
  intro xs s hx
  refine q_impl_SimpleLevels h xs s ?_
  by_cases h0 : seriesM xs = true
  · have hl := series_len h0
    have hl2 := levs_len xs s
    rw [h0]
    repeat' (first | with_reducible refine T.ok_ob ?_ (fun _ => ?_) | with_reducible refine T.ok_ite (fun _ => ?_) (fun _ => ?_) | with_reducible refine T.ok_leaf ?_)
    all_goals first | with_reducible rfl | with_reducible exact h0 ▸ c1 xs hx | with_reducible exact c2 _ | with_reducible exact c3 _ _ hl.1 hl.2 | with_reducible exact c4 _ (by rw [hl2, maxLen_eq]; omega) | contradiction | (simp_all [levOut, levOk, ifAllM]; done)
  repeat' (first | with_reducible refine T.ok_ob ?_ (fun _ => ?_) | with_reducible refine T.ok_ite (fun _ => ?_) (fun _ => ?_) | with_reducible refine T.ok_leaf ?_)
  all_goals first | with_reducible rfl | with_reducible assumption | ((with_reducible refine c1 _ ?_) <;> (first | assumption | omega | (simp [maxLen_eq]; done) | (simp [maxLen_eq]; omega))) | with_reducible exact c2 _ | ((with_reducible refine c3 _ _ ?_ ?_) <;> (first | assumption | omega | (simp [maxLen_eq]; done) | (simp [maxLen_eq]; omega))) | ((with_reducible refine c4 _ ?_) <;> (first | assumption | omega | (simp [maxLen_eq]; done) | (simp [maxLen_eq]; omega))) | contradiction | exact fconvOk_32_64 _ | assumption | exact rfl | (simp_all [levOut, levOk, ifAllM]; done) | (simp_all [T.ok, levOut, levOk, ifAllM]; omega)

theorem k_spec_SimpleLevels {P : Program} {f g_spec_l02Series g_spec_l02Share g_spec_l04Levels g_spec_l02List : FuncId} (h : Is_spec_SimpleLevels P f g_spec_l02Series g_spec_l02Share g_spec_l04Levels g_spec_l02List) (c1 : C_spec_l02Series P g_spec_l02Series) (c2 : C_spec_l02Share P g_spec_l02Share) (c3 : C_spec_l04Levels P g_spec_l04Levels) (c4 : C_spec_l02List P g_spec_l02List) : C_spec_SimpleLevels P f := by
  intro xs s hx
  refine q_spec_SimpleLevels h xs s ?_
  by_cases h0 : seriesM xs = true
  · have hl := series_len h0
    have hl2 := levs_len xs s
    rw [h0]
    repeat' (first | with_reducible refine T.ok_ob ?_ (fun _ => ?_) | with_reducible refine T.ok_ite (fun _ => ?_) (fun _ => ?_) | with_reducible refine T.ok_leaf ?_)
    all_goals first | with_reducible rfl | with_reducible exact h0 ▸ c1 xs hx | with_reducible exact c2 _ | with_reducible exact c3 _ _ hl.1 hl.2 | with_reducible exact c4 _ (by rw [hl2, maxLen_eq]; omega) | contradiction | (simp_all [levOut, levOk, ifAllM]; done)
  repeat' (first | with_reducible refine T.ok_ob ?_ (fun _ => ?_) | with_reducible refine T.ok_ite (fun _ => ?_) (fun _ => ?_) | with_reducible refine T.ok_leaf ?_)
  all_goals first | with_reducible rfl | with_reducible assumption | ((with_reducible refine c1 _ ?_) <;> (first | assumption | omega | (simp [maxLen_eq]; done) | (simp [maxLen_eq]; omega))) | with_reducible exact c2 _ | ((with_reducible refine c3 _ _ ?_ ?_) <;> (first | assumption | omega | (simp [maxLen_eq]; done) | (simp [maxLen_eq]; omega))) | ((with_reducible refine c4 _ ?_) <;> (first | assumption | omega | (simp [maxLen_eq]; done) | (simp [maxLen_eq]; omega))) | contradiction | exact fconvOk_32_64 _ | assumption | exact rfl | (simp_all [levOut, levOk, ifAllM]; done) | (simp_all [T.ok, levOut, levOk, ifAllM]; omega)


def dlOk (xs : List Nat) (s : Nat) : Bool := levOk xs s && (flt .f32 s 1065353216 && levOk (levsM xs s) s)
def dlA (xs : List Nat) (s : Nat) : Nat := fsub .f32 (fmul .f32 1073741824 ((levsM xs s).getD (xs.length - 1) 0)) ((levsM (levsM xs s) s).getD (xs.length - 1) 0)
def dlB (xs : List Nat) (s : Nat) : Nat := fmul .f32 (fdiv .f32 s (fsub .f32 1065353216 s)) (fsub .f32 ((levsM xs s).getD (xs.length - 1) 0) ((levsM (levsM xs s) s).getD (xs.length - 1) 0))
def dlGood (xs : List Nat) (s : Nat) : Bool := dlOk xs s && (finM (dlA xs s) && finM (dlB xs s))

/-- impl.DoubleLine: slots 61, results [.t 4, .t 5, .t 6]; calls [15:g_impl_SimpleLevels, 28:g_impl_SimpleLevels, 57:g_impl_ifTwo]; names [(list, 0), (share, 1), (list, 2), (share, 3), (first, 7), (ok, 8), (second, 9), (a, 10), (b, 11)] -/
def ps_impl_DoubleLine : List Nat := [0, 1, 4, 5, 6, 7, 8, 9, 10, 11, 24, 32]
def b_impl_DoubleLine (g_impl_SimpleLevels g_impl_ifTwo : FuncId) : VCode :=
  (.seq
   (.region false [
    ⟨some 4, .mv, [.k (.f .f32 0)], none⟩,
    ⟨some 5, .mv, [.k (.f .f32 0)], none⟩,
    ⟨some 6, .mv, [.k (.b false)], none⟩])
   (.seq
    (.region false [
     ⟨some 13, .mv, [.t 0], none⟩,
     ⟨some 14, .mv, [.t 1], none⟩,
     ⟨some 15, (.call g_impl_SimpleLevels), [.t 13, .t 14], none⟩,
     ⟨some 12, .mv, [.t 15], none⟩,
     ⟨some 16, (.extract 0), [.t 12], none⟩,
     ⟨some 17, (.extract 1), [.t 12], none⟩,
     ⟨some 7, .mv, [.t 16], none⟩,
     ⟨some 8, .mv, [.t 17], none⟩])
    (.seq
     (.seq
      (.region false [
       ⟨some 18, .mv, [.t 8], none⟩,
       ⟨some 19, .not, [.t 18], none⟩,
       ⟨some 20, .mv, [.t 19], none⟩,
       ⟨some 21, .mv, [.t 1], some (20, false)⟩,
       ⟨some 22, (.bin .lss), [.t 21, .k (.f .f32 1065353216)], some (20, false)⟩,
       ⟨some 23, .not, [.t 22], some (20, false)⟩,
       ⟨some 24, .pick, [.t 20, .k (.b true), .t 23], none⟩])
      (.cond (.t 24)
       (.seq
        (.region false [
         ⟨some 4, .mv, [.k (.f .f32 0)], none⟩,
         ⟨some 5, .mv, [.k (.f .f32 0)], none⟩,
         ⟨some 6, .mv, [.k (.b false)], none⟩])
        .ret)
       .skip))
     (.seq
      (.region false [
       ⟨some 26, .mv, [.t 7], none⟩,
       ⟨some 27, .mv, [.t 1], none⟩,
       ⟨some 28, (.call g_impl_SimpleLevels), [.t 26, .t 27], none⟩,
       ⟨some 25, .mv, [.t 28], none⟩,
       ⟨some 29, (.extract 0), [.t 25], none⟩,
       ⟨some 30, (.extract 1), [.t 25], none⟩,
       ⟨some 9, .mv, [.t 29], none⟩,
       ⟨some 8, .mv, [.t 30], none⟩])
      (.seq
       (.seq
        (.region false [
         ⟨some 31, .mv, [.t 8], none⟩,
         ⟨some 32, .not, [.t 31], none⟩])
        (.cond (.t 32)
         (.seq
          (.region false [
           ⟨some 4, .mv, [.k (.f .f32 0)], none⟩,
           ⟨some 5, .mv, [.k (.f .f32 0)], none⟩,
           ⟨some 6, .mv, [.k (.b false)], none⟩])
          .ret)
         .skip))
       (.seq
        (.region true [
         ⟨some 33, .mv, [.t 7], none⟩,
         ⟨some 34, .mv, [.t 7], none⟩,
         ⟨some 35, .len, [.t 34], none⟩,
         ⟨some 36, (.bin .sub), [.t 35, .k (.i .i64 1)], none⟩,
         ⟨some 37, .iaddr, [.t 33, .t 36], none⟩,
         ⟨some 38, .load, [.t 37], none⟩,
         ⟨some 39, .mv, [.t 9], none⟩,
         ⟨some 40, .mv, [.t 9], none⟩,
         ⟨some 41, .len, [.t 40], none⟩,
         ⟨some 42, (.bin .sub), [.t 41, .k (.i .i64 1)], none⟩,
         ⟨some 43, .iaddr, [.t 39, .t 42], none⟩,
         ⟨some 44, .load, [.t 43], none⟩,
         ⟨some 10, .mv, [.t 38], none⟩,
         ⟨some 11, .mv, [.t 44], none⟩])
        (.seq
         (.region false [
          ⟨some 45, .mv, [.t 10], none⟩,
          ⟨some 46, (.bin .mul), [.k (.f .f32 1073741824), .t 45], none⟩,
          ⟨some 47, .mv, [.t 11], none⟩,
          ⟨some 48, (.bin .sub), [.t 46, .t 47], none⟩,
          ⟨some 49, .mv, [.t 1], none⟩,
          ⟨some 50, .mv, [.t 1], none⟩,
          ⟨some 51, (.bin .sub), [.k (.f .f32 1065353216), .t 50], none⟩,
          ⟨some 52, (.bin .quo), [.t 49, .t 51], none⟩,
          ⟨some 53, .mv, [.t 10], none⟩,
          ⟨some 54, .mv, [.t 11], none⟩,
          ⟨some 55, (.bin .sub), [.t 53, .t 54], none⟩,
          ⟨some 56, (.bin .mul), [.t 52, .t 55], none⟩,
          ⟨some 57, (.call g_impl_ifTwo), [.t 48, .t 56], none⟩,
          ⟨some 58, (.extract 0), [.t 57], none⟩,
          ⟨some 59, (.extract 1), [.t 57], none⟩,
          ⟨some 60, (.extract 2), [.t 57], none⟩,
          ⟨some 4, .mv, [.t 58], none⟩,
          ⟨some 5, .mv, [.t 59], none⟩,
          ⟨some 6, .mv, [.t 60], none⟩])
         .ret)))))))

abbrev Is_impl_DoubleLine (P : Program) (g_f : FuncId) (g_impl_SimpleLevels g_impl_ifTwo : FuncId) : Prop := FnIs P g_f 61 [.t 4, .t 5, .t 6] (b_impl_DoubleLine g_impl_SimpleLevels g_impl_ifTwo)

abbrev C_impl_DoubleLine (P : Program) (g_f : FuncId) : Prop := ∀ (xs : List Nat) (s : Nat) (hx : xs.length ≤ maxLen), VCall P g_f [PS [0] .f32 xs, .f .f32 s] (.tup [.f .f32 (if dlGood xs s = true then dlA xs s else 0), .f .f32 (if dlGood xs s = true then dlB xs s else 0), .b (dlGood xs s)])
def oc1_impl_DoubleLine (as : List AV) : T AV := match as with | [.sl _ _ (.f .f32 xs), .f .f32 s] => .leaf (.tup [.f .f32 (if dlGood xs s = true then dlA xs s else 0), .f .f32 (if dlGood xs s = true then dlB xs s else 0), .b (dlGood xs s)]) | _ => .fail
def oc_impl_DoubleLine (xs : List Nat) (s : Nat) (d : Nat) (as : List AV) : T AV := match d with | 15 => oc1_impl_SimpleLevels as | 28 => oc1_impl_SimpleLevels as | 57 => (match as with | [.f _ x, .f _ y] => .leaf (.tup [.f .f32 (if (finM (dlA xs s) && finM (dlB xs s)) = true then dlA xs s else 0), .f .f32 (if (finM (dlA xs s) && finM (dlB xs s)) = true then dlB xs s else 0), .b (finM (dlA xs s) && finM (dlB xs s))]) | _ => .fail) | _ => .fail



theorem q_impl_DoubleLine {P : Program} {g_f : FuncId} {g_impl_SimpleLevels g_impl_ifTwo : FuncId} (h_ : Is_impl_DoubleLine P g_f g_impl_SimpleLevels g_impl_ifTwo) (xs : List Nat) (s : Nat) (ht : T.ok (fun x_ => x_ = .tup [.f .f32 (if dlGood xs s = true then dlA xs s else 0), .f .f32 (if dlGood xs s = true then dlB xs s else 0), .b (dlGood xs s)]) (
      T.ob ((VCall P) g_impl_SimpleLevels [AV.sl (Tag.par [0]) 0 (Cont.f FloatKind.f32 xs), AV.f FloatKind.f32 s] (AV.tup [AV.sl (Tag.own 0) 0 (Cont.f FloatKind.f32 (levOut xs s)), AV.b (levOk xs s)]))
        (T.ite (!levOk xs s) (T.leaf (AV.tup [AV.f FloatKind.f32 0, AV.f FloatKind.f32 0, AV.b false]))
          (T.ite (!flt FloatKind.f32 s 1065353216) (T.leaf (AV.tup [AV.f FloatKind.f32 0, AV.f FloatKind.f32 0, AV.b false]))
            (T.ob
              ((VCall P) g_impl_SimpleLevels [AV.sl (Tag.par [0]) 0 (Cont.f FloatKind.f32 (levOut xs s)), AV.f FloatKind.f32 s]
                (AV.tup [AV.sl (Tag.own 0) 0 (Cont.f FloatKind.f32 (levOut (levOut xs s) s)), AV.b (levOk (levOut xs s) s)]))
              (T.ite (!levOk (levOut xs s) s) (T.leaf (AV.tup [AV.f FloatKind.f32 0, AV.f FloatKind.f32 0, AV.b false]))
                (T.ob (0 ≤ IntKind.wrap IntKind.i64 ((↑(List.length (levOut xs s)) : Int) - 1) ∧ IntKind.wrap IntKind.i64 ((↑(List.length (levOut xs s)) : Int) - 1) < (↑(List.length (levOut xs s)) : Int))
                  (T.ob
                    (0 ≤ IntKind.wrap IntKind.i64 ((↑(List.length (levOut (levOut xs s) s)) : Int) - 1) ∧
                      IntKind.wrap IntKind.i64 ((↑(List.length (levOut (levOut xs s) s)) : Int) - 1) < (↑(List.length (levOut (levOut xs s) s)) : Int))
                    (T.ob True
                      (T.ob
                        ((VCall P) g_impl_ifTwo
                          [AV.f FloatKind.f32
                              (fsub FloatKind.f32 (fmul FloatKind.f32 1073741824 (List.getD (levOut xs s) (Int.toNat (IntKind.wrap IntKind.i64 ((↑(List.length (levOut xs s)) : Int) - 1))) 0))
                                (List.getD (levOut (levOut xs s) s) (Int.toNat (IntKind.wrap IntKind.i64 ((↑(List.length (levOut (levOut xs s) s)) : Int) - 1))) 0)),
                            AV.f FloatKind.f32
                              (fmul FloatKind.f32 (fdiv FloatKind.f32 s (fsub FloatKind.f32 1065353216 s))
                                (fsub FloatKind.f32 (List.getD (levOut xs s) (Int.toNat (IntKind.wrap IntKind.i64 ((↑(List.length (levOut xs s)) : Int) - 1))) 0)
                                  (List.getD (levOut (levOut xs s) s) (Int.toNat (IntKind.wrap IntKind.i64 ((↑(List.length (levOut (levOut xs s) s)) : Int) - 1))) 0)))]
                          (AV.tup
                            [AV.f FloatKind.f32 (if (finM (dlA xs s) && finM (dlB xs s)) = true then dlA xs s else 0), AV.f FloatKind.f32 (if (finM (dlA xs s) && finM (dlB xs s)) = true then dlB xs s else 0),
                              AV.b (finM (dlA xs s) && finM (dlB xs s))]))
                        (T.leaf
                          (AV.tup
                            [AV.f FloatKind.f32 (if (finM (dlA xs s) && finM (dlB xs s)) = true then dlA xs s else 0), AV.f FloatKind.f32 (if (finM (dlA xs s) && finM (dlB xs s)) = true then dlB xs s else 0),
                              AV.b (finM (dlA xs s) && finM (dlB xs s))])))))))))))) :
    VCall P g_f [PS [0] .f32 xs, .f .f32 s] (.tup [.f .f32 (if dlGood xs s = true then dlA xs s else 0), .f .f32 (if dlGood xs s = true then dlB xs s else 0), .b (dlGood xs s)]) := h_.call_of ps_impl_DoubleLine ⟨oc_impl_DoubleLine xs s, fun _ _ => none⟩ (by kernel_rfl) ht


/-- spec.DoubleLine: slots 72, results [.t 4, .t 5, .t 6]; calls [19:g_spec_SimpleLevels, 25:g_spec_SimpleLevels, 63:g_spec_l01Finite, 67:g_spec_l01Finite]; names [(list, 0), (share, 1), (list, 2), (share, 3), (levels, 7), (one, 8), (twice, 9), (two, 10), (n, 11), (a, 12), (b, 13), (level, 14), (slope, 15)] -/
def ps_spec_DoubleLine : List Nat := [0, 1, 4, 5, 6, 7, 8, 9, 10, 11, 12, 13, 14, 15, 37, 69]
def b_spec_DoubleLine (g_spec_SimpleLevels g_spec_l01Finite : FuncId) : VCode :=
  (.seq
   (.region false [
    ⟨some 4, .mv, [.k (.f .f32 0)], none⟩,
    ⟨some 5, .mv, [.k (.f .f32 0)], none⟩,
    ⟨some 6, .mv, [.k (.b false)], none⟩])
   (.seq
    (.region false [
     ⟨some 17, .mv, [.t 0], none⟩,
     ⟨some 18, .mv, [.t 1], none⟩,
     ⟨some 19, (.call g_spec_SimpleLevels), [.t 17, .t 18], none⟩,
     ⟨some 16, .mv, [.t 19], none⟩,
     ⟨some 20, (.extract 0), [.t 16], none⟩,
     ⟨some 21, (.extract 1), [.t 16], none⟩,
     ⟨some 7, .mv, [.t 20], none⟩,
     ⟨some 8, .mv, [.t 21], none⟩])
    (.seq
     (.region false [
      ⟨some 23, .mv, [.t 7], none⟩,
      ⟨some 24, .mv, [.t 1], none⟩,
      ⟨some 25, (.call g_spec_SimpleLevels), [.t 23, .t 24], none⟩,
      ⟨some 22, .mv, [.t 25], none⟩,
      ⟨some 26, (.extract 0), [.t 22], none⟩,
      ⟨some 27, (.extract 1), [.t 22], none⟩,
      ⟨some 9, .mv, [.t 26], none⟩,
      ⟨some 10, .mv, [.t 27], none⟩])
     (.seq
      (.seq
       (.region false [
        ⟨some 28, .mv, [.t 8], none⟩,
        ⟨some 29, .not, [.t 28], none⟩,
        ⟨some 30, .mv, [.t 29], none⟩,
        ⟨some 31, .mv, [.t 10], some (30, false)⟩,
        ⟨some 32, .not, [.t 31], some (30, false)⟩,
        ⟨some 33, .pick, [.t 30, .k (.b true), .t 32], none⟩,
        ⟨some 34, .mv, [.t 33], none⟩,
        ⟨some 35, .mv, [.t 1], some (34, false)⟩,
        ⟨some 36, (.bin .eql), [.t 35, .k (.f .f32 1065353216)], some (34, false)⟩,
        ⟨some 37, .pick, [.t 34, .k (.b true), .t 36], none⟩])
       (.cond (.t 37)
        (.seq
         (.region false [
          ⟨some 4, .mv, [.k (.f .f32 0)], none⟩,
          ⟨some 5, .mv, [.k (.f .f32 0)], none⟩,
          ⟨some 6, .mv, [.k (.b false)], none⟩])
         .ret)
        .skip))
      (.seq
       (.region false [
        ⟨some 38, .mv, [.t 0], none⟩,
        ⟨some 39, .len, [.t 38], none⟩,
        ⟨some 11, .mv, [.t 39], none⟩])
       (.seq
        (.region false [
         ⟨some 40, .mv, [.t 7], none⟩,
         ⟨some 41, .mv, [.t 11], none⟩,
         ⟨some 42, (.bin .sub), [.t 41, .k (.i .i64 1)], none⟩,
         ⟨some 43, .iaddr, [.t 40, .t 42], none⟩,
         ⟨some 44, .load, [.t 43], none⟩,
         ⟨some 12, .mv, [.t 44], none⟩])
        (.seq
         (.region false [
          ⟨some 45, .mv, [.t 9], none⟩,
          ⟨some 46, .mv, [.t 11], none⟩,
          ⟨some 47, (.bin .sub), [.t 46, .k (.i .i64 1)], none⟩,
          ⟨some 48, .iaddr, [.t 45, .t 47], none⟩,
          ⟨some 49, .load, [.t 48], none⟩,
          ⟨some 13, .mv, [.t 49], none⟩])
         (.seq
          (.region false [
           ⟨some 50, .mv, [.t 12], none⟩,
           ⟨some 51, (.bin .mul), [.k (.f .f32 1073741824), .t 50], none⟩,
           ⟨some 52, .mv, [.t 13], none⟩,
           ⟨some 53, (.bin .sub), [.t 51, .t 52], none⟩,
           ⟨some 14, .mv, [.t 53], none⟩])
          (.seq
           (.region false [
            ⟨some 54, .mv, [.t 1], none⟩,
            ⟨some 55, .mv, [.t 1], none⟩,
            ⟨some 56, (.bin .sub), [.k (.f .f32 1065353216), .t 55], none⟩,
            ⟨some 57, (.bin .quo), [.t 54, .t 56], none⟩,
            ⟨some 58, .mv, [.t 12], none⟩,
            ⟨some 59, .mv, [.t 13], none⟩,
            ⟨some 60, (.bin .sub), [.t 58, .t 59], none⟩,
            ⟨some 61, (.bin .mul), [.t 57, .t 60], none⟩,
            ⟨some 15, .mv, [.t 61], none⟩])
           (.seq
            (.seq
             (.region false [
              ⟨some 62, .mv, [.t 14], none⟩,
              ⟨some 63, (.call g_spec_l01Finite), [.t 62], none⟩,
              ⟨some 64, .not, [.t 63], none⟩,
              ⟨some 65, .mv, [.t 64], none⟩,
              ⟨some 66, .mv, [.t 15], some (65, false)⟩,
              ⟨some 67, (.call g_spec_l01Finite), [.t 66], some (65, false)⟩,
              ⟨some 68, .not, [.t 67], some (65, false)⟩,
              ⟨some 69, .pick, [.t 65, .k (.b true), .t 68], none⟩])
             (.cond (.t 69)
              (.seq
               (.region false [
                ⟨some 4, .mv, [.k (.f .f32 0)], none⟩,
                ⟨some 5, .mv, [.k (.f .f32 0)], none⟩,
                ⟨some 6, .mv, [.k (.b false)], none⟩])
               .ret)
              .skip))
            (.seq
             (.region false [
              ⟨some 70, .mv, [.t 14], none⟩,
              ⟨some 71, .mv, [.t 15], none⟩,
              ⟨some 4, .mv, [.t 70], none⟩,
              ⟨some 5, .mv, [.t 71], none⟩,
              ⟨some 6, .mv, [.k (.b true)], none⟩])
             .ret)))))))))))

abbrev Is_spec_DoubleLine (P : Program) (g_f : FuncId) (g_spec_SimpleLevels g_spec_l01Finite : FuncId) : Prop := FnIs P g_f 72 [.t 4, .t 5, .t 6] (b_spec_DoubleLine g_spec_SimpleLevels g_spec_l01Finite)

abbrev C_spec_DoubleLine (P : Program) (g_f : FuncId) : Prop := ∀ (xs : List Nat) (s : Nat) (hx : xs.length ≤ maxLen), VCall P g_f [PS [0] .f32 xs, .f .f32 s] (.tup [.f .f32 (if dlGood xs s = true then dlA xs s else 0), .f .f32 (if dlGood xs s = true then dlB xs s else 0), .b (dlGood xs s)])
def oc1_spec_DoubleLine (as : List AV) : T AV := match as with | [.sl _ _ (.f .f32 xs), .f .f32 s] => .leaf (.tup [.f .f32 (if dlGood xs s = true then dlA xs s else 0), .f .f32 (if dlGood xs s = true then dlB xs s else 0), .b (dlGood xs s)]) | _ => .fail
def oc_spec_DoubleLine (xs : List Nat) (s : Nat) (d : Nat) (as : List AV) : T AV := match d with | 19 => oc1_spec_SimpleLevels as | 25 => oc1_spec_SimpleLevels as | 63 => .leaf (.b (finM (dlA xs s))) | 67 => .leaf (.b (finM (dlB xs s))) | _ => .fail



theorem q_spec_DoubleLine {P : Program} {g_f : FuncId} {g_spec_SimpleLevels g_spec_l01Finite : FuncId} (h_ : Is_spec_DoubleLine P g_f g_spec_SimpleLevels g_spec_l01Finite) (xs : List Nat) (s : Nat) (ht : T.ok (fun x_ => x_ = .tup [.f .f32 (if dlGood xs s = true then dlA xs s else 0), .f .f32 (if dlGood xs s = true then dlB xs s else 0), .b (dlGood xs s)]) (
      T.ob ((VCall P) g_spec_SimpleLevels [AV.sl (Tag.par [0]) 0 (Cont.f FloatKind.f32 xs), AV.f FloatKind.f32 s] (AV.tup [AV.sl (Tag.own 0) 0 (Cont.f FloatKind.f32 (levOut xs s)), AV.b (levOk xs s)]))
        (T.ob
          ((VCall P) g_spec_SimpleLevels [AV.sl (Tag.par [0]) 0 (Cont.f FloatKind.f32 (levOut xs s)), AV.f FloatKind.f32 s] (AV.tup [AV.sl (Tag.own 0) 0 (Cont.f FloatKind.f32 (levOut (levOut xs s) s)), AV.b (levOk (levOut xs s) s)]))
          (T.ite (!levOk xs s) (T.leaf (AV.tup [AV.f FloatKind.f32 0, AV.f FloatKind.f32 0, AV.b false]))
            (T.ite (!levOk (levOut xs s) s) (T.leaf (AV.tup [AV.f FloatKind.f32 0, AV.f FloatKind.f32 0, AV.b false]))
              (T.ite (feq FloatKind.f32 s 1065353216) (T.leaf (AV.tup [AV.f FloatKind.f32 0, AV.f FloatKind.f32 0, AV.b false]))
                (T.ob (0 ≤ IntKind.wrap IntKind.i64 ((↑(List.length xs) : Int) - 1) ∧ IntKind.wrap IntKind.i64 ((↑(List.length xs) : Int) - 1) < (↑(List.length (levOut xs s)) : Int))
                  (T.ob (0 ≤ IntKind.wrap IntKind.i64 ((↑(List.length xs) : Int) - 1) ∧ IntKind.wrap IntKind.i64 ((↑(List.length xs) : Int) - 1) < (↑(List.length (levOut (levOut xs s) s)) : Int))
                    (T.ob True
                      (T.ob
                        ((VCall P) g_spec_l01Finite
                          [AV.f FloatKind.f32
                              (fsub FloatKind.f32 (fmul FloatKind.f32 1073741824 (List.getD (levOut xs s) (Int.toNat (IntKind.wrap IntKind.i64 ((↑(List.length xs) : Int) - 1))) 0))
                                (List.getD (levOut (levOut xs s) s) (Int.toNat (IntKind.wrap IntKind.i64 ((↑(List.length xs) : Int) - 1))) 0))]
                          (AV.b (finM (dlA xs s))))
                        (T.ite (!finM (dlA xs s)) (T.leaf (AV.tup [AV.f FloatKind.f32 0, AV.f FloatKind.f32 0, AV.b false]))
                          (T.ob
                            ((VCall P) g_spec_l01Finite
                              [AV.f FloatKind.f32
                                  (fmul FloatKind.f32 (fdiv FloatKind.f32 s (fsub FloatKind.f32 1065353216 s))
                                    (fsub FloatKind.f32 (List.getD (levOut xs s) (Int.toNat (IntKind.wrap IntKind.i64 ((↑(List.length xs) : Int) - 1))) 0)
                                      (List.getD (levOut (levOut xs s) s) (Int.toNat (IntKind.wrap IntKind.i64 ((↑(List.length xs) : Int) - 1))) 0)))]
                              (AV.b (finM (dlB xs s))))
                            (T.ite (!finM (dlB xs s)) (T.leaf (AV.tup [AV.f FloatKind.f32 0, AV.f FloatKind.f32 0, AV.b false]))
                              (T.leaf
                                (AV.tup
                                  [AV.f FloatKind.f32
                                      (fsub FloatKind.f32 (fmul FloatKind.f32 1073741824 (List.getD (levOut xs s) (Int.toNat (IntKind.wrap IntKind.i64 ((↑(List.length xs) : Int) - 1))) 0))
                                        (List.getD (levOut (levOut xs s) s) (Int.toNat (IntKind.wrap IntKind.i64 ((↑(List.length xs) : Int) - 1))) 0)),
                                    AV.f FloatKind.f32
                                      (fmul FloatKind.f32 (fdiv FloatKind.f32 s (fsub FloatKind.f32 1065353216 s))
                                        (fsub FloatKind.f32 (List.getD (levOut xs s) (Int.toNat (IntKind.wrap IntKind.i64 ((↑(List.length xs) : Int) - 1))) 0)
                                          (List.getD (levOut (levOut xs s) s) (Int.toNat (IntKind.wrap IntKind.i64 ((↑(List.length xs) : Int) - 1))) 0))),
                                    AV.b true]))))))))))))))) :
    VCall P g_f [PS [0] .f32 xs, .f .f32 s] (.tup [.f .f32 (if dlGood xs s = true then dlA xs s else 0), .f .f32 (if dlGood xs s = true then dlB xs s else 0), .b (dlGood xs s)]) := h_.call_of ps_spec_DoubleLine ⟨oc_spec_DoubleLine xs s, fun _ _ => none⟩ (by kernel_rfl) ht


theorem lt_one {s : Nat} (h : isShareM s = true) : flt .f32 s 1065353216 = !(feq .f32 s 1065353216) := by
  have n1 : nanB .f32 1065353216 = false := by decide
  unfold isShareM at h
  simp only [Bool.and_eq_true, fge_eq, fle_eq, fgt_eq, flt_eq, feq_eq, n1] at h ⊢
  cases hs : nanB .f32 s
  · simp [hs] at h ⊢
    have e := h.2
    by_cases h1 : srung .f32 s = srung .f32 1065353216
    · simp [h1]
    · simp [h1] at e ⊢; exact e
  · simp [hs] at h
theorem levOk_out {xs : List Nat} {s : Nat} (h : levOk xs s = true) : levOut xs s = levsM xs s := by unfold levOut; rw [if_pos h]
theorem levOk_len {xs : List Nat} {s : Nat} (h : levOk xs s = true) : 1 ≤ xs.length ∧ xs.length ≤ 96 := by
  unfold levOk at h; simp at h; exact series_len h.1
theorem levOk_share {xs : List Nat} {s : Nat} (h : levOk xs s = true) : isShareM s = true := by
  unfold levOk at h; simp at h; exact h.2.1
theorem lev_nil (s : Nat) : levOk [] s = false := by simp [levOk, seriesM]
theorem k_impl_DoubleLine {P : Program} {f g1 g2 : FuncId} (h : Is_impl_DoubleLine P f g1 g2) (c1 : C_impl_SimpleLevels P g1) (c2 : C_impl_ifTwo P g2) : C_impl_DoubleLine P f := by
  intro xs s hx
  refine q_impl_DoubleLine h xs s ⟨c1 _ _ hx, fun _ => ⟨fun h0 => ?_, fun h0 => ?_⟩⟩
  · simp at h0; simp [T.ok, dlGood, dlOk, h0]
  · simp at h0
    have hl := levOk_len h0
    have l1 := levs_len xs s
    have l2 := levs_len (levsM xs s) s
    rw [levOk_out h0]
    refine ⟨fun h1 => ?_, fun h1 => ⟨c1 _ _ (by rw [l1]; exact hx), fun _ => ⟨fun h2 => ?_, fun h2 => ?_⟩⟩⟩
    · simp at h1; simp [T.ok, dlGood, dlOk, h1]
    · simp at h2; simp [T.ok, dlGood, dlOk, h2]
    · simp at h1 h2
      rw [levOk_out h2, l2, l1, wrap64_id (by omega) (by omega), show ((xs.length : Int) - 1) = (xs.length - 1 : Nat) by omega, Int.toNat_natCast]
      refine ⟨by omega, fun _ => ⟨by omega, fun _ => ⟨trivial, fun _ => ⟨c2 (dlA xs s) (dlB xs s), fun _ => ?_⟩⟩⟩⟩
      simp [T.ok, dlGood, dlOk, h0, h1, h2]
theorem k_spec_DoubleLine {P : Program} {f g1 g2 : FuncId} (h : Is_spec_DoubleLine P f g1 g2) (c1 : C_spec_SimpleLevels P g1) (c2 : C_spec_l01Finite P g2) : C_spec_DoubleLine P f := by
  intro xs s hx
  have ho : (levOut xs s).length ≤ maxLen := by
    unfold levOut; split
    · rw [levs_len]; exact hx
    · simp
  refine q_spec_DoubleLine h xs s ⟨c1 _ _ hx, fun _ => ⟨c1 _ _ ho, fun _ => ⟨fun h0 => ?_, fun h0 => ?_⟩⟩⟩
  · simp at h0; simp [T.ok, dlGood, dlOk, h0]
  · simp at h0
    have hl := levOk_len h0
    have l1 := levs_len xs s
    have l2 := levs_len (levsM xs s) s
    have lt := lt_one (levOk_share h0)
    rw [levOk_out h0]
    refine ⟨fun h1 => ?_, fun h1 => ⟨fun h2 => ?_, fun h2 => ?_⟩⟩
    · simp at h1; simp [T.ok, dlGood, dlOk, h1]
    · simp [T.ok, dlGood, dlOk, h2, lt]
    · simp at h1
      rw [levOk_out h1, l2, l1, wrap64_id (by omega) (by omega), show ((xs.length : Int) - 1) = (xs.length - 1 : Nat) by omega, Int.toNat_natCast]
      refine ⟨by omega, fun _ => ⟨by omega, fun _ => ⟨trivial, fun _ => ⟨c2 (dlA xs s), fun _ => ⟨fun h3 => ?_, fun h3 => ⟨c2 (dlB xs s), fun _ => ⟨fun h4 => ?_, fun h4 => ?_⟩⟩⟩⟩⟩⟩⟩
      · simp at h3; simp [T.ok, dlGood, dlOk, h3]
      · simp at h4; simp [T.ok, dlGood, dlOk, h4]
      · simp at h3 h4
        have hg : dlGood xs s = true := by simp [dlGood, dlOk, h0, h1, h2, h3, h4, lt]
        simp only [T.ok, hg, if_true]; rfl

/-! ### needs -/
def notLessM (xs : List Nat) : Bool := xs.all fun x => finM x && fge .f32 x 0
def needM (xs : List Nat) : Int := idxM (fun x => fgt .f32 x 0) xs
def needOk (xs : List Nat) (s : Nat) : Bool := seriesM xs && notLessM xs && isShareM s
def firstM (xs : List Nat) (s : Nat) : Int := if needOk xs s = true then needM xs else -1

/-- impl.areNotLess$1: slots 11, results [.t 2]; calls [4:g_impl_IsFinite]; names [(x, 0), (x, 1)] -/
def ps_impl_areNotLess_1 : List Nat := [0, 2]
def b_impl_areNotLess_1 (g_impl_IsFinite : FuncId) : VCode :=
  (.seq
   (.region false [
    ⟨some 2, .mv, [.k (.b false)], none⟩])
   (.seq
    (.region false [
     ⟨some 3, .mv, [.t 0], none⟩,
     ⟨some 4, (.call g_impl_IsFinite), [.t 3], none⟩,
     ⟨some 5, .not, [.t 4], none⟩,
     ⟨some 6, .mv, [.t 5], none⟩,
     ⟨some 7, .mv, [.t 0], some (6, false)⟩,
     ⟨some 8, (.bin .geq), [.t 7, .k (.f .f32 0)], some (6, false)⟩,
     ⟨some 9, .not, [.t 8], some (6, false)⟩,
     ⟨some 10, .pick, [.t 6, .k (.b true), .t 9], none⟩,
     ⟨some 2, .mv, [.t 10], none⟩])
    .ret))

abbrev Is_impl_areNotLess_1 (P : Program) (g_f : FuncId) (g_impl_IsFinite : FuncId) : Prop := FnIs P g_f 11 [.t 2] (b_impl_areNotLess_1 g_impl_IsFinite)

abbrev C_impl_areNotLess_1 (P : Program) (g_f : FuncId) : Prop := ∀ (x : Nat), VCall P g_f [.f .f32 x] (.b (!(finM x && fge .f32 x 0)))
def oc1_impl_areNotLess_1 (as : List AV) : T AV := match as with | [.f .f32 x] => .leaf (.b (!(finM x && fge .f32 x 0))) | _ => .fail
def oc_impl_areNotLess_1 (x : Nat) (d : Nat) (as : List AV) : T AV := match d with | 4 => oc1_impl_IsFinite as | _ => .fail



theorem q_impl_areNotLess_1 {P : Program} {g_f : FuncId} {g_impl_IsFinite : FuncId} (h_ : Is_impl_areNotLess_1 P g_f g_impl_IsFinite) (x : Nat) (ht : T.ok (fun x_ => x_ = .b (!(finM x && fge .f32 x 0))) (
      T.ob ((VCall P) g_impl_IsFinite [AV.f FloatKind.f32 x] (AV.b (finM x))) (T.ite (!finM x) (T.leaf (AV.b true)) (T.leaf (AV.b !fge FloatKind.f32 x 0))))) :
    VCall P g_f [.f .f32 x] (.b (!(finM x && fge .f32 x 0))) := h_.call_of ps_impl_areNotLess_1 ⟨oc_impl_areNotLess_1 x, fun _ _ => none⟩ (by kernel_rfl) ht


/-- impl.areNotLess: slots 6, results [.t 2]; calls [4:g_slices_ContainsFunc___float32_float32_]; names [(list, 0), (list, 1)] -/
def ps_impl_areNotLess : List Nat := [0, 2]
def b_impl_areNotLess (g_slices_ContainsFunc___float32_float32_ g_impl_areNotLess_1 : FuncId) : VCode :=
  (.seq
   (.region false [
    ⟨some 2, .mv, [.k (.b false)], none⟩])
   (.seq
    (.region false [
     ⟨some 3, .mv, [.t 0], none⟩,
     ⟨some 4, (.call g_slices_ContainsFunc___float32_float32_), [.t 3, .k (.fn g_impl_areNotLess_1 [])], none⟩,
     ⟨some 5, .not, [.t 4], none⟩,
     ⟨some 2, .mv, [.t 5], none⟩])
    .ret))

abbrev Is_impl_areNotLess (P : Program) (g_f : FuncId) (g_slices_ContainsFunc___float32_float32_ g_impl_areNotLess_1 : FuncId) : Prop := FnIs P g_f 6 [.t 2] (b_impl_areNotLess g_slices_ContainsFunc___float32_float32_ g_impl_areNotLess_1)

abbrev C_impl_areNotLess (P : Program) (g_f : FuncId) : Prop := ∀ (xs : List Nat) (hx : xs.length ≤ maxLen), VCall P g_f [PS [0] .f32 xs] (.b (notLessM xs))
def oc1_impl_areNotLess (as : List AV) : T AV := match as with | [.sl _ _ (.f .f32 xs)] => .leaf (.b (notLessM xs)) | _ => .fail
def oc_impl_areNotLess (xs : List Nat) (d : Nat) (as : List AV) : T AV := match d with | 4 => .leaf (.b (xs.any fun x => !(finM x && fge .f32 x 0))) | _ => .fail



theorem q_impl_areNotLess {P : Program} {g_f : FuncId} {g_slices_ContainsFunc___float32_float32_ g_impl_areNotLess_1 : FuncId} (h_ : Is_impl_areNotLess P g_f g_slices_ContainsFunc___float32_float32_ g_impl_areNotLess_1) (xs : List Nat) (ht : T.ok (fun x_ => x_ = .b (notLessM xs)) (
      T.ob ((VCall P) g_slices_ContainsFunc___float32_float32_ [AV.sl (Tag.par [0]) 0 (Cont.f FloatKind.f32 xs), AV.fn g_impl_areNotLess_1 []] (AV.b (List.any xs fun (x : Nat) => !(finM x && fge FloatKind.f32 x 0))))
        (T.leaf (AV.b !List.any xs fun (x : Nat) => !(finM x && fge FloatKind.f32 x 0))))) :
    VCall P g_f [PS [0] .f32 xs] (.b (notLessM xs)) := h_.call_of ps_impl_areNotLess ⟨oc_impl_areNotLess xs, fun _ _ => none⟩ (by kernel_rfl) ht


/-- impl.firstNeed$1: slots 5, results [.t 2]; calls []; names [(x, 0), (x, 1)] -/
def ps_impl_firstNeed_1 : List Nat := [0, 2]
def b_impl_firstNeed_1 : VCode :=
  (.seq
   (.region false [
    ⟨some 2, .mv, [.k (.b false)], none⟩])
   (.seq
    (.region false [
     ⟨some 3, .mv, [.t 0], none⟩,
     ⟨some 4, (.bin .gtr), [.t 3, .k (.f .f32 0)], none⟩,
     ⟨some 2, .mv, [.t 4], none⟩])
    .ret))

abbrev Is_impl_firstNeed_1 (P : Program) (g_f : FuncId) : Prop := FnIs P g_f 5 [.t 2] (b_impl_firstNeed_1)

abbrev C_impl_firstNeed_1 (P : Program) (g_f : FuncId) : Prop := ∀ (x : Nat), VCall P g_f [.f .f32 x] (.b (fgt .f32 x 0))
def oc1_impl_firstNeed_1 (as : List AV) : T AV := match as with | [.f .f32 x] => .leaf (.b (fgt .f32 x 0)) | _ => .fail



theorem q_impl_firstNeed_1 {P : Program} {g_f : FuncId} (h_ : Is_impl_firstNeed_1 P g_f) (x : Nat) (ht : T.ok (fun x_ => x_ = .b (fgt .f32 x 0)) (
      T.leaf (AV.b (fgt FloatKind.f32 x 0)))) :
    VCall P g_f [.f .f32 x] (.b (fgt .f32 x 0)) := h_.call_of ps_impl_firstNeed_1 ⟨fun _ _ => .fail, fun _ _ => none⟩ (by kernel_rfl) ht


/-- impl.firstNeed: slots 20, results [.t 4]; calls [6:g_impl_IsSeries, 10:g_impl_areNotLess, 15:g_impl_isShare, 19:g_slices_IndexFunc___float32_float32_]; names [(list, 0), (share, 1), (list, 2), (share, 3)] -/
def ps_impl_firstNeed : List Nat := [0, 1, 4, 17]
def b_impl_firstNeed (g_impl_IsSeries g_impl_areNotLess g_impl_isShare g_slices_IndexFunc___float32_float32_ g_impl_firstNeed_1 : FuncId) : VCode :=
  (.seq
   (.region false [
    ⟨some 4, .mv, [.k (.i .i64 0)], none⟩])
   (.seq
    (.seq
     (.region false [
      ⟨some 5, .mv, [.t 0], none⟩,
      ⟨some 6, (.call g_impl_IsSeries), [.t 5], none⟩,
      ⟨some 7, .not, [.t 6], none⟩,
      ⟨some 8, .mv, [.t 7], none⟩,
      ⟨some 9, .mv, [.t 0], some (8, false)⟩,
      ⟨some 10, (.call g_impl_areNotLess), [.t 9], some (8, false)⟩,
      ⟨some 11, .not, [.t 10], some (8, false)⟩,
      ⟨some 12, .pick, [.t 8, .k (.b true), .t 11], none⟩,
      ⟨some 13, .mv, [.t 12], none⟩,
      ⟨some 14, .mv, [.t 1], some (13, false)⟩,
      ⟨some 15, (.call g_impl_isShare), [.t 14], some (13, false)⟩,
      ⟨some 16, .not, [.t 15], some (13, false)⟩,
      ⟨some 17, .pick, [.t 13, .k (.b true), .t 16], none⟩])
     (.cond (.t 17)
      (.seq
       (.region false [
        ⟨some 4, .mv, [.k (.i .i64 (-1))], none⟩])
       .ret)
      .skip))
    (.seq
     (.region false [
      ⟨some 18, .mv, [.t 0], none⟩,
      ⟨some 19, (.call g_slices_IndexFunc___float32_float32_), [.t 18, .k (.fn g_impl_firstNeed_1 [])], none⟩,
      ⟨some 4, .mv, [.t 19], none⟩])
     .ret)))

abbrev Is_impl_firstNeed (P : Program) (g_f : FuncId) (g_impl_IsSeries g_impl_areNotLess g_impl_isShare g_slices_IndexFunc___float32_float32_ g_impl_firstNeed_1 : FuncId) : Prop := FnIs P g_f 20 [.t 4] (b_impl_firstNeed g_impl_IsSeries g_impl_areNotLess g_impl_isShare g_slices_IndexFunc___float32_float32_ g_impl_firstNeed_1)

abbrev C_impl_firstNeed (P : Program) (g_f : FuncId) : Prop := ∀ (xs : List Nat) (s : Nat) (hx : xs.length ≤ maxLen), VCall P g_f [PS [0] .f32 xs, .f .f32 s] (.i .i64 (firstM xs s))
def oc1_impl_firstNeed (as : List AV) : T AV := match as with | [.sl _ _ (.f .f32 xs), .f .f32 s] => .leaf (.i .i64 (firstM xs s)) | _ => .fail
def oc_impl_firstNeed (xs : List Nat) (s : Nat) (d : Nat) (as : List AV) : T AV := match d with | 6 => oc1_impl_IsSeries as | 10 => oc1_impl_areNotLess as | 15 => oc1_impl_isShare as | 19 => .leaf (.i .i64 (needM xs)) | _ => .fail



theorem q_impl_firstNeed {P : Program} {g_f : FuncId} {g_impl_IsSeries g_impl_areNotLess g_impl_isShare g_slices_IndexFunc___float32_float32_ g_impl_firstNeed_1 : FuncId} (h_ : Is_impl_firstNeed P g_f g_impl_IsSeries g_impl_areNotLess g_impl_isShare g_slices_IndexFunc___float32_float32_ g_impl_firstNeed_1) (xs : List Nat) (s : Nat) (ht : T.ok (fun x_ => x_ = .i .i64 (firstM xs s)) (
      T.ob ((VCall P) g_impl_IsSeries [AV.sl (Tag.par [0]) 0 (Cont.f FloatKind.f32 xs)] (AV.b (seriesM xs)))
        (T.ite (!seriesM xs) (T.leaf (AV.i IntKind.i64 (-1)))
          (T.ob ((VCall P) g_impl_areNotLess [AV.sl (Tag.par [0]) 0 (Cont.f FloatKind.f32 xs)] (AV.b (notLessM xs)))
            (T.ite (!notLessM xs) (T.leaf (AV.i IntKind.i64 (-1)))
              (T.ob ((VCall P) g_impl_isShare [AV.f FloatKind.f32 s] (AV.b (isShareM s)))
                (T.ite (!isShareM s) (T.leaf (AV.i IntKind.i64 (-1)))
                  (T.ob ((VCall P) g_slices_IndexFunc___float32_float32_ [AV.sl (Tag.par [0]) 0 (Cont.f FloatKind.f32 xs), AV.fn g_impl_firstNeed_1 []] (AV.i IntKind.i64 (needM xs))) (T.leaf (AV.i IntKind.i64 (needM xs))))))))))) :
    VCall P g_f [PS [0] .f32 xs, .f .f32 s] (.i .i64 (firstM xs s)) := h_.call_of ps_impl_firstNeed ⟨oc_impl_firstNeed xs s, fun _ _ => none⟩ (by kernel_rfl) ht


def someLess (xs : List Nat) : Bool := xs.any fun x => flt .f32 x 0
/-- spec.l04Needs: slots 30, results [.t 2, .t 3]; calls []; names [(list, 0), (list, 1), (first, 4), (i, 5)] -/
def ps_spec_l04Needs : List Nat := [0, 2, 3, 4, 5, 9, 16, 25]
def lv_spec_l04Needs_L0 : List Nat := [0, 4, 5]
def b_spec_l04Needs_L0 : VCode :=
  (.seq
   (.seq
    (.region false [
     ⟨some 6, .mv, [.t 5], none⟩,
     ⟨some 7, .mv, [.t 0], none⟩,
     ⟨some 8, .len, [.t 7], none⟩,
     ⟨some 9, (.bin .lss), [.t 6, .t 8], none⟩])
    (.cond (.t 9)
     .skip
     (.exit 0)))
   (.seq
    (.block 1
     (.seq
      (.seq
       (.region false [
        ⟨some 12, .mv, [.t 0], none⟩,
        ⟨some 13, .mv, [.t 5], none⟩,
        ⟨some 14, .iaddr, [.t 12, .t 13], none⟩,
        ⟨some 15, .load, [.t 14], none⟩,
        ⟨some 16, (.bin .lss), [.t 15, .k (.f .f32 0)], none⟩])
       (.cond (.t 16)
        (.seq
         (.region false [
          ⟨some 2, .mv, [.k (.i .i64 0)], none⟩,
          ⟨some 3, .mv, [.k (.b false)], none⟩])
         .ret)
        .skip))
      (.seq
       (.region false [
        ⟨some 17, .mv, [.t 0], none⟩,
        ⟨some 18, .mv, [.t 5], none⟩,
        ⟨some 19, .iaddr, [.t 17, .t 18], none⟩,
        ⟨some 20, .load, [.t 19], none⟩,
        ⟨some 21, (.bin .gtr), [.t 20, .k (.f .f32 0)], none⟩,
        ⟨some 22, .mv, [.t 21], none⟩,
        ⟨some 23, .mv, [.t 4], some (22, true)⟩,
        ⟨some 24, (.bin .lss), [.t 23, .k (.i .i64 0)], some (22, true)⟩,
        ⟨some 25, .pick, [.t 22, .t 24, .k (.b false)], none⟩])
       (.cond (.t 25)
        (.region false [
         ⟨some 26, .mv, [.t 5], none⟩,
         ⟨some 4, .mv, [.t 26], none⟩])
        .skip))))
    (.region false [
     ⟨some 10, .mv, [.t 5], none⟩,
     ⟨some 11, (.bin .add), [.t 10, .k (.i .i64 1)], none⟩,
     ⟨some 5, .mv, [.t 11], none⟩])))

def b_spec_l04Needs : VCode :=
  (.seq
   (.region false [
    ⟨some 2, .mv, [.k (.i .i64 0)], none⟩,
    ⟨some 3, .mv, [.k (.b false)], none⟩])
   (.seq
    (.region false [
     ⟨some 4, .mv, [.k (.i .i64 (-1))], none⟩])
    (.seq
     (.seq
      (.region false [
       ⟨some 5, .mv, [.k (.i .i64 0)], none⟩])
      (.block 0 (.loop b_spec_l04Needs_L0)))
     (.seq
      (.region false [
       ⟨some 27, .mv, [.t 4], none⟩,
       ⟨some 28, .mv, [.t 4], none⟩,
       ⟨some 29, (.bin .geq), [.t 28, .k (.i .i64 0)], none⟩,
       ⟨some 2, .mv, [.t 27], none⟩,
       ⟨some 3, .mv, [.t 29], none⟩])
      .ret))))

abbrev Is_spec_l04Needs (P : Program) (g_f : FuncId) : Prop := FnIs P g_f 30 [.t 2, .t 3] (b_spec_l04Needs)

abbrev C_spec_l04Needs (P : Program) (g_f : FuncId) : Prop := ∀ (xs : List Nat) (hx : xs.length ≤ 96), VCall P g_f [PS [0] .f32 xs] (.tup [.i .i64 (if someLess xs = true then 0 else needM xs), .b (!someLess xs && decide (needM xs ≥ 0))])
def oc1_spec_l04Needs (as : List AV) : T AV := match as with | [.sl _ _ (.f .f32 xs)] => .leaf (.tup [.i .i64 (if someLess xs = true then 0 else needM xs), .b (!someLess xs && decide (needM xs ≥ 0))]) | _ => .fail
def h_spec_l04Needs_L0 (xs : List Nat) (first : Int) (i : Int) : Env := [AV.sl (Tag.par [0]) 0 (Cont.f FloatKind.f32 xs), .any, .any, .any, .i IntKind.i64 first, .i IntKind.i64 i] ++ anys 24

theorem q_spec_l04Needs_L0 {VC : FuncId → List AV → AV → Prop} (xs : List Nat) (first : Int) (i : Int) {e_ : Ex} {σ_ : Env} (ht : T.ok (fun x_ => x_ = (e_, σ_)) (
      T.ite (decide (i < (↑(List.length xs) : Int)))
        (T.ob (0 ≤ i ∧ i < (↑(List.length xs) : Int))
          (T.ite (flt FloatKind.f32 (List.getD xs (Int.toNat i) 0) 0) (T.leaf (Ex.ret, AV.any :: AV.any :: AV.i IntKind.i64 0 :: AV.b false :: anys 26))
            (T.ob (0 ≤ i ∧ i < (↑(List.length xs) : Int))
              (T.ite (fgt FloatKind.f32 (List.getD xs (Int.toNat i) 0) 0)
                (T.ite (decide (first < 0)) (T.leaf (Ex.normal, h_spec_l04Needs_L0 xs i (IntKind.wrap IntKind.i64 (i + 1)))) (T.leaf (Ex.normal, h_spec_l04Needs_L0 xs first (IntKind.wrap IntKind.i64 (i + 1)))))
                (T.leaf (Ex.normal, h_spec_l04Needs_L0 xs first (IntKind.wrap IntKind.i64 (i + 1))))))))
        (T.leaf (Ex.exit 0, h_spec_l04Needs_L0 xs first i)))) :
    Exec VC ps_spec_l04Needs (b_spec_l04Needs_L0) (h_spec_l04Needs_L0 xs first i) e_ σ_ := evL_of (lv := lv_spec_l04Needs_L0) (rs := [2, 3]) (O := ⟨fun _ _ => .fail, fun _ _ => none⟩) (by kernel_rfl) ht

theorem q_spec_l04Needs {P : Program} {g_f : FuncId} (h_ : Is_spec_l04Needs P g_f) (xs : List Nat) (ht : T.ok (fun x_ => x_ = .tup [.i .i64 (if someLess xs = true then 0 else needM xs), .b (!someLess xs && decide (needM xs ≥ 0))]) (
      T.ite (someLess xs)
        (T.ob (Exec (VCall P) ps_spec_l04Needs (VCode.block 0 (VCode.loop b_spec_l04Needs_L0)) (h_spec_l04Needs_L0 xs (-1) 0) Ex.ret (AV.any :: AV.any :: AV.i IntKind.i64 0 :: AV.b false :: anys 26))
          (T.leaf (AV.tup [AV.i IntKind.i64 0, AV.b false])))
        (T.ob (Exec (VCall P) ps_spec_l04Needs (VCode.block 0 (VCode.loop b_spec_l04Needs_L0)) (h_spec_l04Needs_L0 xs (-1) 0) Ex.normal (h_spec_l04Needs_L0 xs (needM xs) (↑(List.length xs) : Int)))
          (T.leaf (AV.tup [AV.i IntKind.i64 (needM xs), AV.b (decide (needM xs ≥ 0))]))))) :
    VCall P g_f [PS [0] .f32 xs] (.tup [.i .i64 (if someLess xs = true then 0 else needM xs), .b (!someLess xs && decide (needM xs ≥ 0))]) := h_.call_of ps_spec_l04Needs ⟨fun _ _ => .fail, fun id σ => match id with | 0 => some (lv_spec_l04Needs_L0, .ite (someLess xs) (.leaf (.ret, [.any, .any, .i .i64 0, .b false] ++ anys 26)) (.leaf (.normal, h_spec_l04Needs_L0 xs (needM xs) xs.length))) | _ => none⟩ (by kernel_rfl) ht


theorem any_allN {p : Nat → Bool} (xs : List Nat) : xs.any p = !allN xs.length fun i => !p (xs.getD i 0) := by
  rw [Bool.eq_iff_iff]
  cases h : allN xs.length (fun i => !p (xs.getD i 0)) with
  | true =>
    have h := allN_iff.1 h
    simp only [Bool.not_true, List.any_eq_true]
    refine ⟨fun ⟨x, hx, hp⟩ => ?_, fun h' => Bool.noConfusion h'⟩
    obtain ⟨j, hj, rfl⟩ := mem_getD_rng 0 hx
    have := h j hj
    rw [hp] at this; cases this
  | false =>
    obtain ⟨i, hi, h1, _⟩ := allN_not h
    simp only [Bool.not_false, List.any_eq_true, iff_true]
    refine ⟨xs.getD i 0, ?_, by simpa using h1⟩
    simp [List.getD, hi]
theorem idx_nat {α : Type} {p : α → Bool} {xs : List α} (h : 0 ≤ idxM p xs) : ∃ k : Nat, idxM p xs = k ∧ k < xs.length := by
  unfold idxM at h ⊢
  split
  · rename_i h1; exact ⟨_, rfl, h1⟩
  · rename_i h1; rw [if_neg h1] at h; omega
theorem idx_next {p : Nat → Bool} (xs : List Nat) (i : Nat) (h : i < xs.length) : idxM p (xs.take (i + 1)) = if p (xs.getD i 0) = true then (if idxM p (xs.take i) < 0 then (i : Int) else idxM p (xs.take i)) else idxM p (xs.take i) := by
  have hl : (xs.take i).length = i := by simp; omega
  rw [take_next xs i 0 h]
  unfold idxM
  rw [List.findIdx_append, hl]
  simp only [List.length_append, hl, List.length_singleton, List.findIdx_singleton]
  generalize (xs.take i).findIdx p = q
  by_cases h1 : q < i
  · have h2 : q < i + 1 := by omega
    have h3 : ¬ ((q : Int) < 0) := by omega
    simp only [h1, h2, h3, if_true, if_false]; simp
  · cases hp : p (xs.getD i 0) <;> simp [h1]
    omega
theorem k_spec_l04Needs {P : Program} {f : FuncId} (h : Is_spec_l04Needs P f) : C_spec_l04Needs P f := by
  intro xs hx
  have ea : someLess xs = !allN xs.length fun i => !flt .f32 (xs.getD i 0) 0 := any_allN xs
  have e0 : idxM (fun x => fgt .f32 x 0) (xs.take 0) = -1 := rfl
  have en : idxM (fun x => fgt .f32 x 0) (xs.take xs.length) = needM xs := by rw [List.take_length]; rfl
  have go : ∀ i, i < xs.length → (!flt .f32 (xs.getD i 0) 0) = true → Exec (VCall P) ps_spec_l04Needs b_spec_l04Needs_L0 (h_spec_l04Needs_L0 xs (idxM (fun x => fgt .f32 x 0) (xs.take i)) i) .normal (h_spec_l04Needs_L0 xs (idxM (fun x => fgt .f32 x 0) (xs.take (i + 1))) (i + 1 : Nat)) := by
    intro i hi hc
    refine q_spec_l04Needs_L0 _ _ _ ?_
    rw [idx_next xs i hi]
    generalize idxM (fun x => fgt .f32 x 0) (xs.take i) = k
    repeat' (first | with_reducible refine T.ok_ob ?_ (fun _ => ?_) | with_reducible refine T.ok_ite (fun _ => ?_) (fun _ => ?_) | with_reducible refine T.ok_leaf ?_)
    all_goals (try simp only [decide_eq_true_eq, decide_eq_false_iff_not, Bool.not_eq_true', Bool.not_eq_false', Bool.not_eq_eq_eq_not, Bool.not_true, Bool.not_false, Int.toNat_natCast, tab_len, List.length_append, List.length_singleton, List.length_cons, List.length_nil, List.length_drop, List.length_take, getD_drop', getD_nat] at *)
    all_goals (try simp (disch := omega) only [wrap64_id] at *)
    all_goals first | omega | (exfalso; omega) | trivial | contradiction | (exfalso; simp_all; done) | skip
    all_goals simp_all
    rw [if_neg (by omega)]
  refine q_spec_l04Needs h xs ⟨fun h1 => ⟨?_, fun _ => ?_⟩, fun h1 => ⟨?_, fun _ => ?_⟩⟩
  · refine for_one (e := .ret) _ xs.length (fun i => h_spec_l04Needs_L0 xs (idxM (fun x => fgt .f32 x 0) (xs.take i)) i) (by rw [ea] at h1; simpa using h1) (by rw [e0]; rfl) go (fun i hi hc => ?_)
    refine q_spec_l04Needs_L0 _ _ _ ?_
    repeat' (first | with_reducible refine T.ok_ob ?_ (fun _ => ?_) | with_reducible refine T.ok_ite (fun _ => ?_) (fun _ => ?_) | with_reducible refine T.ok_leaf ?_)
    all_goals (try simp only [decide_eq_true_eq, decide_eq_false_iff_not, Bool.not_eq_true', Bool.not_eq_false', Bool.not_eq_eq_eq_not, Bool.not_true, Bool.not_false, Int.toNat_natCast, tab_len, List.length_append, List.length_singleton, List.length_cons, List.length_nil, List.length_drop, List.length_take, getD_drop', getD_nat] at *)
    all_goals (try simp (disch := omega) only [wrap64_id] at *)
    all_goals first | omega | (exfalso; omega) | trivial | contradiction | (exfalso; simp_all; done) | skip
    all_goals simp_all [anys]
  · simp [T.ok, h1]
  · refine for_all (e := .exit 0) _ xs.length (fun i => h_spec_l04Needs_L0 xs (idxM (fun x => fgt .f32 x 0) (xs.take i)) i) (by rw [ea] at h1; simpa using h1) (by rw [e0]; rfl) go ?_
    rw [en]
    refine q_spec_l04Needs_L0 _ _ _ ?_
    repeat' (first | with_reducible refine T.ok_ob ?_ (fun _ => ?_) | with_reducible refine T.ok_ite (fun _ => ?_) (fun _ => ?_) | with_reducible refine T.ok_leaf ?_)
    all_goals (try simp only [decide_eq_true_eq, decide_eq_false_iff_not, Bool.not_eq_true', Bool.not_eq_false', Bool.not_eq_eq_eq_not, Bool.not_true, Bool.not_false, Int.toNat_natCast, tab_len, List.length_append, List.length_singleton, List.length_cons, List.length_nil, List.length_drop, List.length_take, getD_drop', getD_nat] at *)
    all_goals (try simp (disch := omega) only [wrap64_id] at *)
    all_goals first | omega | (exfalso; omega) | trivial | contradiction | (exfalso; simp_all; done) | skip
  · simp [T.ok, h1]
theorem k_impl_areNotLess_1 {P : Program} {f g_impl_IsFinite : FuncId} (h : Is_impl_areNotLess_1 P f g_impl_IsFinite) (c1 : C_impl_IsFinite P g_impl_IsFinite) : C_impl_areNotLess_1 P f := by
  intro x
  refine q_impl_areNotLess_1 h x ?_
  repeat' (first | with_reducible refine T.ok_ob ?_ (fun _ => ?_) | with_reducible refine T.ok_ite (fun _ => ?_) (fun _ => ?_) | with_reducible refine T.ok_leaf ?_)
  all_goals first | with_reducible rfl | with_reducible assumption | with_reducible exact c1 _ | contradiction | exact fconvOk_32_64 _ | assumption | exact rfl | (simp_all []; done) | (simp_all [T.ok]; omega)

theorem k_impl_firstNeed_1 {P : Program} {f : FuncId} (h : Is_impl_firstNeed_1 P f) : C_impl_firstNeed_1 P f := by
  intro x
  refine q_impl_firstNeed_1 h x ?_
  repeat' (first | with_reducible refine T.ok_ob ?_ (fun _ => ?_) | with_reducible refine T.ok_ite (fun _ => ?_) (fun _ => ?_) | with_reducible refine T.ok_leaf ?_)
  all_goals first | with_reducible rfl | with_reducible assumption | contradiction | exact fconvOk_32_64 _ | assumption | exact rfl | (simp_all []; done) | (simp_all [T.ok]; omega)

theorem k_impl_areNotLess {P : Program} {f g F : FuncId} (h : Is_impl_areNotLess P f g F) (hg : C_slices_ContainsFunc___float32_float32_ P g) (hF : C_impl_areNotLess_1 P F) : C_impl_areNotLess P f := by
  intro xs hx
  refine q_impl_areNotLess h xs ⟨hg xs F _ hF hx, fun _ => ?_⟩
  show _ = _
  congr 1
  unfold notLessM
  rw [← List.not_all_eq_any_not, Bool.not_not]
theorem k_impl_firstNeed {P : Program} {f g1 g2 g3 g4 F : FuncId} (h : Is_impl_firstNeed P f g1 g2 g3 g4 F) (c1 : C_impl_IsSeries P g1) (c2 : C_impl_areNotLess P g2) (c3 : C_impl_isShare P g3) (c4 : C_slices_IndexFunc___float32_float32_ P g4) (hF : C_impl_firstNeed_1 P F) : C_impl_firstNeed P f := by
  intro xs s hx
  refine q_impl_firstNeed h xs s ?_
  repeat' (first | with_reducible refine T.ok_ob ?_ (fun _ => ?_) | with_reducible refine T.ok_ite (fun _ => ?_) (fun _ => ?_) | with_reducible refine T.ok_leaf ?_)
  all_goals first | with_reducible rfl | with_reducible exact c1 _ hx | with_reducible exact c2 _ hx | with_reducible exact c3 _ | exact c4 xs F _ hF hx | (simp_all [firstM, needOk]; done)
theorem series_less {xs : List Nat} (h : seriesM xs = true) : notLessM xs = !someLess xs := by
  unfold seriesM at h
  simp only [Bool.and_eq_true] at h
  have hf := h.2.2
  unfold finAllM at hf
  rw [List.all_eq_true] at hf
  unfold notLessM someLess
  rw [List.not_any_eq_all_not]
  rw [Bool.eq_iff_iff, List.all_eq_true, List.all_eq_true]
  have n0 : nanB .f32 0 = false := by decide
  refine ⟨fun h' x hx => ?_, fun h' x hx => ?_⟩
  · have := h' x hx
    rw [hf x hx, fge_not _ (finM_nan (hf x hx)) n0] at this
    simpa using this
  · have := h' x hx
    rw [hf x hx, fge_not _ (finM_nan (hf x hx)) n0]
    simpa using this
theorem needOk_len {xs : List Nat} {s : Nat} (h : needOk xs s = true) : 1 ≤ xs.length ∧ xs.length ≤ 96 := by
  unfold needOk at h; simp at h; exact series_len h.1.1

/-- size, wait and the last need, one number on -/
def seldomStep (xs : List Nat) (s : Nat) (i : Nat) (a : Nat × Nat × Int) : Nat × Nat × Int :=
  if fgt .f32 (xs.getD i 0) 0 = true then (fadd .f32 a.1 (fmul .f32 s (fsub .f32 (xs.getD i 0) a.1)), fadd .f32 a.2.1 (fmul .f32 s (fsub .f32 (fofi .f32 (i - a.2.2)) a.2.1)), i) else a
def seldomAt (xs : List Nat) (s k n : Nat) : Nat × Nat × Int := accN (fun j a => seldomStep xs s (k + 1 + j) a) n (xs.getD k 0, fofi .f32 (k + 1), (k : Int))
def seldomM (xs : List Nat) (s : Nat) : Nat := let a := seldomAt xs s (needM xs).toNat (xs.length - ((needM xs).toNat + 1)); fdiv .f32 a.1 a.2.1
def seldomOk (xs : List Nat) (s : Nat) : Bool := needOk xs s && (decide (needM xs ≥ 0) && finM (seldomM xs s))

/-- impl.SeldomNeeds: slots 63, results [.t 4, .t 5]; calls [12:g_impl_firstNeed, 60:g_impl_ifFinite]; names [(list, 0), (share, 1), (list, 2), (share, 3), (last, 6), (size, 7), (wait, 8), (i, 9)] -/
def ps_impl_SeldomNeeds : List Nat := [0, 1, 4, 5, 6, 7, 8, 9, 14, 27, 35]
def lv_impl_SeldomNeeds_L0 : List Nat := [0, 1, 6, 7, 8, 9]
def b_impl_SeldomNeeds_L0 (g_impl_firstNeed g_impl_ifFinite : FuncId) : VCode :=
  (.seq
   (.seq
    (.region false [
     ⟨some 24, .mv, [.t 9], none⟩,
     ⟨some 25, .mv, [.t 0], none⟩,
     ⟨some 26, .len, [.t 25], none⟩,
     ⟨some 27, (.bin .lss), [.t 24, .t 26], none⟩])
    (.cond (.t 27)
     .skip
     (.exit 0)))
   (.seq
    (.block 1
     (.seq
      (.seq
       (.region false [
        ⟨some 30, .mv, [.t 0], none⟩,
        ⟨some 31, .mv, [.t 9], none⟩,
        ⟨some 32, .iaddr, [.t 30, .t 31], none⟩,
        ⟨some 33, .load, [.t 32], none⟩,
        ⟨some 34, (.bin .gtr), [.t 33, .k (.f .f32 0)], none⟩,
        ⟨some 35, .not, [.t 34], none⟩])
       (.cond (.t 35)
        (.exit 1)
        .skip))
      (.seq
       (.region false [
        ⟨some 36, .mv, [.t 7], none⟩,
        ⟨some 37, .mv, [.t 1], none⟩,
        ⟨some 38, .mv, [.t 0], none⟩,
        ⟨some 39, .mv, [.t 9], none⟩,
        ⟨some 40, .iaddr, [.t 38, .t 39], none⟩,
        ⟨some 41, .load, [.t 40], none⟩,
        ⟨some 42, .mv, [.t 7], none⟩,
        ⟨some 43, (.bin .sub), [.t 41, .t 42], none⟩,
        ⟨some 44, (.bin .mul), [.t 37, .t 43], none⟩,
        ⟨some 45, (.bin .add), [.t 36, .t 44], none⟩,
        ⟨some 7, .mv, [.t 45], none⟩])
       (.seq
        (.region false [
         ⟨some 46, .mv, [.t 8], none⟩,
         ⟨some 47, .mv, [.t 1], none⟩,
         ⟨some 48, .mv, [.t 9], none⟩,
         ⟨some 49, .mv, [.t 6], none⟩,
         ⟨some 50, (.bin .sub), [.t 48, .t 49], none⟩,
         ⟨some 51, (.convF .f32), [.t 50], none⟩,
         ⟨some 52, .mv, [.t 8], none⟩,
         ⟨some 53, (.bin .sub), [.t 51, .t 52], none⟩,
         ⟨some 54, (.bin .mul), [.t 47, .t 53], none⟩,
         ⟨some 55, (.bin .add), [.t 46, .t 54], none⟩,
         ⟨some 8, .mv, [.t 55], none⟩])
        (.region false [
         ⟨some 56, .mv, [.t 9], none⟩,
         ⟨some 6, .mv, [.t 56], none⟩])))))
    (.region false [
     ⟨some 28, .mv, [.t 9], none⟩,
     ⟨some 29, (.bin .add), [.t 28, .k (.i .i64 1)], none⟩,
     ⟨some 9, .mv, [.t 29], none⟩])))

def b_impl_SeldomNeeds (g_impl_firstNeed g_impl_ifFinite : FuncId) : VCode :=
  (.seq
   (.region false [
    ⟨some 4, .mv, [.k (.f .f32 0)], none⟩,
    ⟨some 5, .mv, [.k (.b false)], none⟩])
   (.seq
    (.region false [
     ⟨some 10, .mv, [.t 0], none⟩,
     ⟨some 11, .mv, [.t 1], none⟩,
     ⟨some 12, (.call g_impl_firstNeed), [.t 10, .t 11], none⟩,
     ⟨some 6, .mv, [.t 12], none⟩])
    (.seq
     (.seq
      (.region false [
       ⟨some 13, .mv, [.t 6], none⟩,
       ⟨some 14, (.bin .lss), [.t 13, .k (.i .i64 0)], none⟩])
      (.cond (.t 14)
       (.seq
        (.region false [
         ⟨some 4, .mv, [.k (.f .f32 0)], none⟩,
         ⟨some 5, .mv, [.k (.b false)], none⟩])
        .ret)
       .skip))
     (.seq
      (.region false [
       ⟨some 15, .mv, [.t 0], none⟩,
       ⟨some 16, .mv, [.t 6], none⟩,
       ⟨some 17, .iaddr, [.t 15, .t 16], none⟩,
       ⟨some 18, .load, [.t 17], none⟩,
       ⟨some 19, .mv, [.t 6], none⟩,
       ⟨some 20, (.bin .add), [.t 19, .k (.i .i64 1)], none⟩,
       ⟨some 21, (.convF .f32), [.t 20], none⟩,
       ⟨some 7, .mv, [.t 18], none⟩,
       ⟨some 8, .mv, [.t 21], none⟩])
      (.seq
       (.seq
        (.region false [
         ⟨some 22, .mv, [.t 6], none⟩,
         ⟨some 23, (.bin .add), [.t 22, .k (.i .i64 1)], none⟩,
         ⟨some 9, .mv, [.t 23], none⟩])
        (.block 0 (.loop (b_impl_SeldomNeeds_L0 g_impl_firstNeed g_impl_ifFinite))))
       (.seq
        (.region false [
         ⟨some 57, .mv, [.t 7], none⟩,
         ⟨some 58, .mv, [.t 8], none⟩,
         ⟨some 59, (.bin .quo), [.t 57, .t 58], none⟩,
         ⟨some 60, (.call g_impl_ifFinite), [.t 59], none⟩,
         ⟨some 61, (.extract 0), [.t 60], none⟩,
         ⟨some 62, (.extract 1), [.t 60], none⟩,
         ⟨some 4, .mv, [.t 61], none⟩,
         ⟨some 5, .mv, [.t 62], none⟩])
        .ret))))))

abbrev Is_impl_SeldomNeeds (P : Program) (g_f : FuncId) (g_impl_firstNeed g_impl_ifFinite : FuncId) : Prop := FnIs P g_f 63 [.t 4, .t 5] (b_impl_SeldomNeeds g_impl_firstNeed g_impl_ifFinite)

abbrev C_impl_SeldomNeeds (P : Program) (g_f : FuncId) : Prop := ∀ (xs : List Nat) (s : Nat) (hx : xs.length ≤ maxLen), VCall P g_f [PS [0] .f32 xs, .f .f32 s] (.tup [.f .f32 (if seldomOk xs s = true then seldomM xs s else 0), .b (seldomOk xs s)])
def oc1_impl_SeldomNeeds (as : List AV) : T AV := match as with | [.sl _ _ (.f .f32 xs), .f .f32 s] => .leaf (.tup [.f .f32 (if seldomOk xs s = true then seldomM xs s else 0), .b (seldomOk xs s)]) | _ => .fail
def oc_impl_SeldomNeeds (xs : List Nat) (s : Nat) (d : Nat) (as : List AV) : T AV := match d with | 12 => oc1_impl_firstNeed as | 60 => oc1_impl_ifFinite as | _ => .fail
def h_impl_SeldomNeeds_L0 (xs : List Nat) (s : Nat) (last : Int) (size : Nat) (wait : Nat) (i : Int) : Env := [AV.sl (Tag.par [0]) 0 (Cont.f FloatKind.f32 xs), AV.f FloatKind.f32 s] ++ anys 4 ++ [.i IntKind.i64 last, .f FloatKind.f32 size, .f FloatKind.f32 wait, .i IntKind.i64 i] ++ anys 53

theorem q_impl_SeldomNeeds_L0 {VC : FuncId → List AV → AV → Prop} {g_impl_firstNeed g_impl_ifFinite : FuncId} (xs : List Nat) (s : Nat) (last : Int) (size : Nat) (wait : Nat) (i : Int) {e_ : Ex} {σ_ : Env} (ht : T.ok (fun x_ => x_ = (e_, σ_)) (
      T.ite (decide (i < (↑(List.length xs) : Int)))
        (T.ob (0 ≤ i ∧ i < (↑(List.length xs) : Int))
          (T.ite (!fgt FloatKind.f32 (List.getD xs (Int.toNat i) 0) 0) (T.leaf (Ex.normal, h_impl_SeldomNeeds_L0 xs s last size wait (IntKind.wrap IntKind.i64 (i + 1))))
            (T.ob (0 ≤ i ∧ i < (↑(List.length xs) : Int))
              (T.ob True
                (T.leaf
                  (Ex.normal,
                    h_impl_SeldomNeeds_L0 xs s i (fadd FloatKind.f32 size (fmul FloatKind.f32 s (fsub FloatKind.f32 (List.getD xs (Int.toNat i) 0) size)))
                      (fadd FloatKind.f32 wait (fmul FloatKind.f32 s (fsub FloatKind.f32 (fofi FloatKind.f32 (IntKind.wrap IntKind.i64 (i - last))) wait))) (IntKind.wrap IntKind.i64 (i + 1))))))))
        (T.leaf (Ex.exit 0, h_impl_SeldomNeeds_L0 xs s last size wait i)))) :
    Exec VC ps_impl_SeldomNeeds (b_impl_SeldomNeeds_L0 g_impl_firstNeed g_impl_ifFinite) (h_impl_SeldomNeeds_L0 xs s last size wait i) e_ σ_ := evL_of (lv := lv_impl_SeldomNeeds_L0) (rs := [4, 5]) (O := ⟨oc_impl_SeldomNeeds xs s, fun _ _ => none⟩) (by kernel_rfl) ht

theorem q_impl_SeldomNeeds {P : Program} {g_f : FuncId} {g_impl_firstNeed g_impl_ifFinite : FuncId} (h_ : Is_impl_SeldomNeeds P g_f g_impl_firstNeed g_impl_ifFinite) (xs : List Nat) (s : Nat) (ht : T.ok (fun x_ => x_ = .tup [.f .f32 (if seldomOk xs s = true then seldomM xs s else 0), .b (seldomOk xs s)]) (
      T.ob ((VCall P) g_impl_firstNeed [AV.sl (Tag.par [0]) 0 (Cont.f FloatKind.f32 xs), AV.f FloatKind.f32 s] (AV.i IntKind.i64 (firstM xs s)))
        (T.ite (decide (firstM xs s < 0)) (T.leaf (AV.tup [AV.f FloatKind.f32 0, AV.b false]))
          (T.ob (0 ≤ firstM xs s ∧ firstM xs s < (↑(List.length xs) : Int))
            (T.ob True
              (T.ob
                (Exec (VCall P) ps_impl_SeldomNeeds (VCode.block 0 (VCode.loop (b_impl_SeldomNeeds_L0 g_impl_firstNeed g_impl_ifFinite)))
                  (h_impl_SeldomNeeds_L0 xs s (firstM xs s) (List.getD xs (Int.toNat (firstM xs s)) 0) (fofi FloatKind.f32 (IntKind.wrap IntKind.i64 (firstM xs s + 1))) (IntKind.wrap IntKind.i64 (firstM xs s + 1))) Ex.normal
                  (h_impl_SeldomNeeds_L0 xs s (Prod.snd (Prod.snd (seldomAt xs s (Int.toNat (needM xs)) (List.length xs - (Int.toNat (needM xs) + 1)))))
                    (Prod.fst (seldomAt xs s (Int.toNat (needM xs)) (List.length xs - (Int.toNat (needM xs) + 1)))) (Prod.fst (Prod.snd (seldomAt xs s (Int.toNat (needM xs)) (List.length xs - (Int.toNat (needM xs) + 1)))))
                    (↑(List.length xs) : Int)))
                (T.ob True
                  (T.ob
                    ((VCall P) g_impl_ifFinite
                      [AV.f FloatKind.f32
                          (fdiv FloatKind.f32 (Prod.fst (seldomAt xs s (Int.toNat (needM xs)) (List.length xs - (Int.toNat (needM xs) + 1))))
                            (Prod.fst (Prod.snd (seldomAt xs s (Int.toNat (needM xs)) (List.length xs - (Int.toNat (needM xs) + 1))))))]
                      (AV.tup
                        [AV.f FloatKind.f32
                            (numM
                              (fdiv FloatKind.f32 (Prod.fst (seldomAt xs s (Int.toNat (needM xs)) (List.length xs - (Int.toNat (needM xs) + 1))))
                                (Prod.fst (Prod.snd (seldomAt xs s (Int.toNat (needM xs)) (List.length xs - (Int.toNat (needM xs) + 1))))))),
                          AV.b
                            (finM
                              (fdiv FloatKind.f32 (Prod.fst (seldomAt xs s (Int.toNat (needM xs)) (List.length xs - (Int.toNat (needM xs) + 1))))
                                (Prod.fst (Prod.snd (seldomAt xs s (Int.toNat (needM xs)) (List.length xs - (Int.toNat (needM xs) + 1)))))))]))
                    (T.leaf
                      (AV.tup
                        [AV.f FloatKind.f32
                            (numM
                              (fdiv FloatKind.f32 (Prod.fst (seldomAt xs s (Int.toNat (needM xs)) (List.length xs - (Int.toNat (needM xs) + 1))))
                                (Prod.fst (Prod.snd (seldomAt xs s (Int.toNat (needM xs)) (List.length xs - (Int.toNat (needM xs) + 1))))))),
                          AV.b
                            (finM
                              (fdiv FloatKind.f32 (Prod.fst (seldomAt xs s (Int.toNat (needM xs)) (List.length xs - (Int.toNat (needM xs) + 1))))
                                (Prod.fst (Prod.snd (seldomAt xs s (Int.toNat (needM xs)) (List.length xs - (Int.toNat (needM xs) + 1)))))))])))))))))) :
    VCall P g_f [PS [0] .f32 xs, .f .f32 s] (.tup [.f .f32 (if seldomOk xs s = true then seldomM xs s else 0), .b (seldomOk xs s)]) := h_.call_of ps_impl_SeldomNeeds ⟨oc_impl_SeldomNeeds xs s, fun id σ => match id with | 0 => some (lv_impl_SeldomNeeds_L0, .leaf (.normal, h_impl_SeldomNeeds_L0 xs s (seldomAt xs s (needM xs).toNat (xs.length - ((needM xs).toNat + 1))).2.2 (seldomAt xs s (needM xs).toNat (xs.length - ((needM xs).toNat + 1))).1 (seldomAt xs s (needM xs).toNat (xs.length - ((needM xs).toNat + 1))).2.1 xs.length)) | _ => none⟩ (by kernel_rfl) ht


/-- spec.SeldomNeeds: slots 75, results [.t 4, .t 5]; calls [13:g_spec_l02Series, 17:g_spec_l02Share, 22:g_spec_l04Needs, 72:g_spec_l02Number]; names [(list, 0), (share, 1), (list, 2), (share, 3), (first, 6), (ok, 7), (size, 8), (wait, 9), (last, 10), (i, 11)] -/
def ps_spec_SeldomNeeds : List Nat := [0, 1, 4, 5, 6, 7, 8, 9, 10, 11, 19, 26, 40, 47]
def lv_spec_SeldomNeeds_L0 : List Nat := [0, 1, 8, 9, 10, 11]
def b_spec_SeldomNeeds_L0 (g_spec_l02Series g_spec_l02Share g_spec_l04Needs g_spec_l02Number : FuncId) : VCode :=
  (.seq
   (.seq
    (.region false [
     ⟨some 37, .mv, [.t 11], none⟩,
     ⟨some 38, .mv, [.t 0], none⟩,
     ⟨some 39, .len, [.t 38], none⟩,
     ⟨some 40, (.bin .lss), [.t 37, .t 39], none⟩])
    (.cond (.t 40)
     .skip
     (.exit 0)))
   (.seq
    (.block 1
     (.seq
      (.region false [
       ⟨some 43, .mv, [.t 0], none⟩,
       ⟨some 44, .mv, [.t 11], none⟩,
       ⟨some 45, .iaddr, [.t 43, .t 44], none⟩,
       ⟨some 46, .load, [.t 45], none⟩,
       ⟨some 47, (.bin .gtr), [.t 46, .k (.f .f32 0)], none⟩])
      (.cond (.t 47)
       (.seq
        (.region false [
         ⟨some 48, .mv, [.t 8], none⟩,
         ⟨some 49, .mv, [.t 1], none⟩,
         ⟨some 50, .mv, [.t 0], none⟩,
         ⟨some 51, .mv, [.t 11], none⟩,
         ⟨some 52, .iaddr, [.t 50, .t 51], none⟩,
         ⟨some 53, .load, [.t 52], none⟩,
         ⟨some 54, .mv, [.t 8], none⟩,
         ⟨some 55, (.bin .sub), [.t 53, .t 54], none⟩,
         ⟨some 56, (.bin .mul), [.t 49, .t 55], none⟩,
         ⟨some 57, (.bin .add), [.t 48, .t 56], none⟩,
         ⟨some 8, .mv, [.t 57], none⟩])
        (.seq
         (.region false [
          ⟨some 58, .mv, [.t 9], none⟩,
          ⟨some 59, .mv, [.t 1], none⟩,
          ⟨some 60, .mv, [.t 11], none⟩,
          ⟨some 61, .mv, [.t 10], none⟩,
          ⟨some 62, (.bin .sub), [.t 60, .t 61], none⟩,
          ⟨some 63, (.convF .f32), [.t 62], none⟩,
          ⟨some 64, .mv, [.t 9], none⟩,
          ⟨some 65, (.bin .sub), [.t 63, .t 64], none⟩,
          ⟨some 66, (.bin .mul), [.t 59, .t 65], none⟩,
          ⟨some 67, (.bin .add), [.t 58, .t 66], none⟩,
          ⟨some 9, .mv, [.t 67], none⟩])
         (.region false [
          ⟨some 68, .mv, [.t 11], none⟩,
          ⟨some 10, .mv, [.t 68], none⟩])))
       .skip)))
    (.region false [
     ⟨some 41, .mv, [.t 11], none⟩,
     ⟨some 42, (.bin .add), [.t 41, .k (.i .i64 1)], none⟩,
     ⟨some 11, .mv, [.t 42], none⟩])))

def b_spec_SeldomNeeds (g_spec_l02Series g_spec_l02Share g_spec_l04Needs g_spec_l02Number : FuncId) : VCode :=
  (.seq
   (.region false [
    ⟨some 4, .mv, [.k (.f .f32 0)], none⟩,
    ⟨some 5, .mv, [.k (.b false)], none⟩])
   (.seq
    (.seq
     (.region false [
      ⟨some 12, .mv, [.t 0], none⟩,
      ⟨some 13, (.call g_spec_l02Series), [.t 12], none⟩,
      ⟨some 14, .not, [.t 13], none⟩,
      ⟨some 15, .mv, [.t 14], none⟩,
      ⟨some 16, .mv, [.t 1], some (15, false)⟩,
      ⟨some 17, (.call g_spec_l02Share), [.t 16], some (15, false)⟩,
      ⟨some 18, .not, [.t 17], some (15, false)⟩,
      ⟨some 19, .pick, [.t 15, .k (.b true), .t 18], none⟩])
     (.cond (.t 19)
      (.seq
       (.region false [
        ⟨some 4, .mv, [.k (.f .f32 0)], none⟩,
        ⟨some 5, .mv, [.k (.b false)], none⟩])
       .ret)
      .skip))
    (.seq
     (.region false [
      ⟨some 21, .mv, [.t 0], none⟩,
      ⟨some 22, (.call g_spec_l04Needs), [.t 21], none⟩,
      ⟨some 20, .mv, [.t 22], none⟩,
      ⟨some 23, (.extract 0), [.t 20], none⟩,
      ⟨some 24, (.extract 1), [.t 20], none⟩,
      ⟨some 6, .mv, [.t 23], none⟩,
      ⟨some 7, .mv, [.t 24], none⟩])
     (.seq
      (.seq
       (.region false [
        ⟨some 25, .mv, [.t 7], none⟩,
        ⟨some 26, .not, [.t 25], none⟩])
       (.cond (.t 26)
        (.seq
         (.region false [
          ⟨some 4, .mv, [.k (.f .f32 0)], none⟩,
          ⟨some 5, .mv, [.k (.b false)], none⟩])
         .ret)
        .skip))
      (.seq
       (.region false [
        ⟨some 27, .mv, [.t 0], none⟩,
        ⟨some 28, .mv, [.t 6], none⟩,
        ⟨some 29, .iaddr, [.t 27, .t 28], none⟩,
        ⟨some 30, .load, [.t 29], none⟩,
        ⟨some 8, .mv, [.t 30], none⟩])
       (.seq
        (.region false [
         ⟨some 31, .mv, [.t 6], none⟩,
         ⟨some 32, (.bin .add), [.t 31, .k (.i .i64 1)], none⟩,
         ⟨some 33, (.convF .f32), [.t 32], none⟩,
         ⟨some 9, .mv, [.t 33], none⟩])
        (.seq
         (.region false [
          ⟨some 34, .mv, [.t 6], none⟩,
          ⟨some 10, .mv, [.t 34], none⟩])
         (.seq
          (.seq
           (.region false [
            ⟨some 35, .mv, [.t 6], none⟩,
            ⟨some 36, (.bin .add), [.t 35, .k (.i .i64 1)], none⟩,
            ⟨some 11, .mv, [.t 36], none⟩])
           (.block 0 (.loop (b_spec_SeldomNeeds_L0 g_spec_l02Series g_spec_l02Share g_spec_l04Needs g_spec_l02Number))))
          (.seq
           (.region false [
            ⟨some 69, .mv, [.t 8], none⟩,
            ⟨some 70, .mv, [.t 9], none⟩,
            ⟨some 71, (.bin .quo), [.t 69, .t 70], none⟩,
            ⟨some 72, (.call g_spec_l02Number), [.t 71], none⟩,
            ⟨some 73, (.extract 0), [.t 72], none⟩,
            ⟨some 74, (.extract 1), [.t 72], none⟩,
            ⟨some 4, .mv, [.t 73], none⟩,
            ⟨some 5, .mv, [.t 74], none⟩])
           .ret)))))))))

abbrev Is_spec_SeldomNeeds (P : Program) (g_f : FuncId) (g_spec_l02Series g_spec_l02Share g_spec_l04Needs g_spec_l02Number : FuncId) : Prop := FnIs P g_f 75 [.t 4, .t 5] (b_spec_SeldomNeeds g_spec_l02Series g_spec_l02Share g_spec_l04Needs g_spec_l02Number)

abbrev C_spec_SeldomNeeds (P : Program) (g_f : FuncId) : Prop := ∀ (xs : List Nat) (s : Nat) (hx : xs.length ≤ maxLen), VCall P g_f [PS [0] .f32 xs, .f .f32 s] (.tup [.f .f32 (if seldomOk xs s = true then seldomM xs s else 0), .b (seldomOk xs s)])
def oc1_spec_SeldomNeeds (as : List AV) : T AV := match as with | [.sl _ _ (.f .f32 xs), .f .f32 s] => .leaf (.tup [.f .f32 (if seldomOk xs s = true then seldomM xs s else 0), .b (seldomOk xs s)]) | _ => .fail
def oc_spec_SeldomNeeds (xs : List Nat) (s : Nat) (d : Nat) (as : List AV) : T AV := match d with | 13 => oc1_spec_l02Series as | 17 => oc1_spec_l02Share as | 22 => oc1_spec_l04Needs as | 72 => oc1_spec_l02Number as | _ => .fail
def h_spec_SeldomNeeds_L0 (xs : List Nat) (s : Nat) (size : Nat) (wait : Nat) (last : Int) (i : Int) : Env := [AV.sl (Tag.par [0]) 0 (Cont.f FloatKind.f32 xs), AV.f FloatKind.f32 s] ++ anys 6 ++ [.f FloatKind.f32 size, .f FloatKind.f32 wait, .i IntKind.i64 last, .i IntKind.i64 i] ++ anys 63

theorem q_spec_SeldomNeeds_L0 {VC : FuncId → List AV → AV → Prop} {g_spec_l02Series g_spec_l02Share g_spec_l04Needs g_spec_l02Number : FuncId} (xs : List Nat) (s : Nat) (size : Nat) (wait : Nat) (last : Int) (i : Int) {e_ : Ex} {σ_ : Env} (ht : T.ok (fun x_ => x_ = (e_, σ_)) (
      T.ite (decide (i < (↑(List.length xs) : Int)))
        (T.ob (0 ≤ i ∧ i < (↑(List.length xs) : Int))
          (T.ite (fgt FloatKind.f32 (List.getD xs (Int.toNat i) 0) 0)
            (T.ob (0 ≤ i ∧ i < (↑(List.length xs) : Int))
              (T.ob True
                (T.leaf
                  (Ex.normal,
                    h_spec_SeldomNeeds_L0 xs s (fadd FloatKind.f32 size (fmul FloatKind.f32 s (fsub FloatKind.f32 (List.getD xs (Int.toNat i) 0) size)))
                      (fadd FloatKind.f32 wait (fmul FloatKind.f32 s (fsub FloatKind.f32 (fofi FloatKind.f32 (IntKind.wrap IntKind.i64 (i - last))) wait))) i (IntKind.wrap IntKind.i64 (i + 1))))))
            (T.leaf (Ex.normal, h_spec_SeldomNeeds_L0 xs s size wait last (IntKind.wrap IntKind.i64 (i + 1))))))
        (T.leaf (Ex.exit 0, h_spec_SeldomNeeds_L0 xs s size wait last i)))) :
    Exec VC ps_spec_SeldomNeeds (b_spec_SeldomNeeds_L0 g_spec_l02Series g_spec_l02Share g_spec_l04Needs g_spec_l02Number) (h_spec_SeldomNeeds_L0 xs s size wait last i) e_ σ_ := evL_of (lv := lv_spec_SeldomNeeds_L0) (rs := [4, 5]) (O := ⟨oc_spec_SeldomNeeds xs s, fun _ _ => none⟩) (by kernel_rfl) ht

theorem q_spec_SeldomNeeds {P : Program} {g_f : FuncId} {g_spec_l02Series g_spec_l02Share g_spec_l04Needs g_spec_l02Number : FuncId} (h_ : Is_spec_SeldomNeeds P g_f g_spec_l02Series g_spec_l02Share g_spec_l04Needs g_spec_l02Number) (xs : List Nat) (s : Nat) (ht : T.ok (fun x_ => x_ = .tup [.f .f32 (if seldomOk xs s = true then seldomM xs s else 0), .b (seldomOk xs s)]) (
      T.ob ((VCall P) g_spec_l02Series [AV.sl (Tag.par [0]) 0 (Cont.f FloatKind.f32 xs)] (AV.b (seriesM xs)))
        (T.ite (!seriesM xs) (T.leaf (AV.tup [AV.f FloatKind.f32 0, AV.b false]))
          (T.ob ((VCall P) g_spec_l02Share [AV.f FloatKind.f32 s] (AV.b (isShareM s)))
            (T.ite (!isShareM s) (T.leaf (AV.tup [AV.f FloatKind.f32 0, AV.b false]))
              (T.ob ((VCall P) g_spec_l04Needs [AV.sl (Tag.par [0]) 0 (Cont.f FloatKind.f32 xs)] (AV.tup [AV.i IntKind.i64 (if someLess xs = true then 0 else needM xs), AV.b (!someLess xs && decide (needM xs ≥ 0))]))
                (T.ite (!(!someLess xs && decide (needM xs ≥ 0))) (T.leaf (AV.tup [AV.f FloatKind.f32 0, AV.b false]))
                  (T.ob ((0 ≤ if someLess xs = true then 0 else needM xs) ∧ (if someLess xs = true then 0 else needM xs) < (↑(List.length xs) : Int))
                    (T.ob True
                      (T.ob
                        (Exec (VCall P) ps_spec_SeldomNeeds (VCode.block 0 (VCode.loop (b_spec_SeldomNeeds_L0 g_spec_l02Series g_spec_l02Share g_spec_l04Needs g_spec_l02Number)))
                          (h_spec_SeldomNeeds_L0 xs s (List.getD xs (Int.toNat (if someLess xs = true then 0 else needM xs)) 0) (fofi FloatKind.f32 (IntKind.wrap IntKind.i64 ((if someLess xs = true then 0 else needM xs) + 1)))
                            (if someLess xs = true then 0 else needM xs) (IntKind.wrap IntKind.i64 ((if someLess xs = true then 0 else needM xs) + 1)))
                          Ex.normal
                          (h_spec_SeldomNeeds_L0 xs s (Prod.fst (seldomAt xs s (Int.toNat (needM xs)) (List.length xs - (Int.toNat (needM xs) + 1))))
                            (Prod.fst (Prod.snd (seldomAt xs s (Int.toNat (needM xs)) (List.length xs - (Int.toNat (needM xs) + 1)))))
                            (Prod.snd (Prod.snd (seldomAt xs s (Int.toNat (needM xs)) (List.length xs - (Int.toNat (needM xs) + 1))))) (↑(List.length xs) : Int)))
                        (T.ob True
                          (T.ob
                            ((VCall P) g_spec_l02Number
                              [AV.f FloatKind.f32
                                  (fdiv FloatKind.f32 (Prod.fst (seldomAt xs s (Int.toNat (needM xs)) (List.length xs - (Int.toNat (needM xs) + 1))))
                                    (Prod.fst (Prod.snd (seldomAt xs s (Int.toNat (needM xs)) (List.length xs - (Int.toNat (needM xs) + 1))))))]
                              (AV.tup
                                [AV.f FloatKind.f32
                                    (numM
                                      (fdiv FloatKind.f32 (Prod.fst (seldomAt xs s (Int.toNat (needM xs)) (List.length xs - (Int.toNat (needM xs) + 1))))
                                        (Prod.fst (Prod.snd (seldomAt xs s (Int.toNat (needM xs)) (List.length xs - (Int.toNat (needM xs) + 1))))))),
                                  AV.b
                                    (finM
                                      (fdiv FloatKind.f32 (Prod.fst (seldomAt xs s (Int.toNat (needM xs)) (List.length xs - (Int.toNat (needM xs) + 1))))
                                        (Prod.fst (Prod.snd (seldomAt xs s (Int.toNat (needM xs)) (List.length xs - (Int.toNat (needM xs) + 1)))))))]))
                            (T.leaf
                              (AV.tup
                                [AV.f FloatKind.f32
                                    (numM
                                      (fdiv FloatKind.f32 (Prod.fst (seldomAt xs s (Int.toNat (needM xs)) (List.length xs - (Int.toNat (needM xs) + 1))))
                                        (Prod.fst (Prod.snd (seldomAt xs s (Int.toNat (needM xs)) (List.length xs - (Int.toNat (needM xs) + 1))))))),
                                  AV.b
                                    (finM
                                      (fdiv FloatKind.f32 (Prod.fst (seldomAt xs s (Int.toNat (needM xs)) (List.length xs - (Int.toNat (needM xs) + 1))))
                                        (Prod.fst (Prod.snd (seldomAt xs s (Int.toNat (needM xs)) (List.length xs - (Int.toNat (needM xs) + 1)))))))])))))))))))))) :
    VCall P g_f [PS [0] .f32 xs, .f .f32 s] (.tup [.f .f32 (if seldomOk xs s = true then seldomM xs s else 0), .b (seldomOk xs s)]) := h_.call_of ps_spec_SeldomNeeds ⟨oc_spec_SeldomNeeds xs s, fun id σ => match id with | 0 => some (lv_spec_SeldomNeeds_L0, .leaf (.normal, h_spec_SeldomNeeds_L0 xs s (seldomAt xs s (needM xs).toNat (xs.length - ((needM xs).toNat + 1))).1 (seldomAt xs s (needM xs).toNat (xs.length - ((needM xs).toNat + 1))).2.1 (seldomAt xs s (needM xs).toNat (xs.length - ((needM xs).toNat + 1))).2.2 xs.length)) | _ => none⟩ (by kernel_rfl) ht


theorem seldom_bound (xs : List Nat) (s k : Nat) : ∀ j, (k : Int) ≤ (seldomAt xs s k j).2.2 ∧ (seldomAt xs s k j).2.2 ≤ k + j
  | 0 => by simp [seldomAt, accN]
  | j + 1 => by
    have := seldom_bound xs s k j
    show (k : Int) ≤ (seldomStep xs s (k + 1 + j) (seldomAt xs s k j)).2.2 ∧ (seldomStep xs s (k + 1 + j) (seldomAt xs s k j)).2.2 ≤ k + (j + 1 : Nat)
    unfold seldomStep
    split
    · simp; omega
    · omega
theorem k_impl_SeldomNeeds {P : Program} {f g1 g2 : FuncId} (h : Is_impl_SeldomNeeds P f g1 g2) (c1 : C_impl_firstNeed P g1) (c2 : C_impl_ifFinite P g2) : C_impl_SeldomNeeds P f := by
  intro xs s hx
  have a1 := c1 xs s hx
  refine q_impl_SeldomNeeds h xs s ⟨a1, fun _ => ⟨fun h0 => ?_, fun h0 => ?_⟩⟩
  · have h0 := of_decide_eq_true h0
    have : seldomOk xs s = false := by
      unfold firstM at h0; unfold seldomOk
      split at h0
      · have : ¬ (needM xs ≥ 0) := by omega
        simp [this]
      · rename_i h1; simp [h1]
    simp [T.ok, this]
  · have h0 := of_decide_eq_false h0
    have hk : needOk xs s = true := by
      unfold firstM at h0
      split at h0
      · assumption
      · omega
    have hf : firstM xs s = needM xs := by unfold firstM; rw [if_pos hk]
    have hl := needOk_len hk
    obtain ⟨k, hk2, hkl⟩ := idx_nat (p := fun x => fgt .f32 x 0) (xs := xs) (show 0 ≤ needM xs by omega)
    have hk2 : needM xs = k := hk2
    rw [hf, hk2, Int.toNat_natCast, wrap64_id (by omega) (by omega)]
    refine ⟨by omega, fun _ => ⟨trivial, fun _ => ⟨?_, fun _ => ⟨trivial, fun _ => ⟨c2 _, fun _ => ?_⟩⟩⟩⟩⟩
    · refine for_up (e := .exit 0) (xs.length - (k + 1)) (fun j => h_impl_SeldomNeeds_L0 xs s (seldomAt xs s k j).2.2 (seldomAt xs s k j).1 (seldomAt xs s k j).2.1 (k + 1 + j : Nat)) rfl (fun j hj => ?_) ?_
      · refine q_impl_SeldomNeeds_L0 _ _ _ _ _ _ ?_
        have e : seldomAt xs s k (j + 1) = seldomStep xs s (k + 1 + j) (seldomAt xs s k j) := rfl
        have hb := seldom_bound xs s k j
        simp only [e]
        generalize seldomAt xs s k j = a at *
        unfold seldomStep
        repeat' (first | with_reducible refine T.ok_ob ?_ (fun _ => ?_) | with_reducible refine T.ok_ite (fun _ => ?_) (fun _ => ?_) | with_reducible refine T.ok_leaf ?_)
        all_goals (try simp only [decide_eq_true_eq, decide_eq_false_iff_not, Bool.not_eq_true', Bool.not_eq_false', Bool.not_eq_eq_eq_not, Bool.not_true, Bool.not_false, Int.toNat_natCast, tab_len, List.length_append, List.length_singleton, List.length_cons, List.length_nil, List.length_drop, List.length_take, getD_drop', getD_nat] at *)
        all_goals (try simp (disch := omega) only [wrap64_id] at *)
        all_goals first | omega | (exfalso; omega) | trivial | contradiction | (exfalso; simp_all; done) | skip
        all_goals (simp only [*, if_true, if_false, Bool.false_eq_true] <;> rfl)
      · refine q_impl_SeldomNeeds_L0 _ _ _ _ _ _ ?_
        rw [show k + 1 + (xs.length - (k + 1)) = xs.length by omega]
        repeat' (first | with_reducible refine T.ok_ob ?_ (fun _ => ?_) | with_reducible refine T.ok_ite (fun _ => ?_) (fun _ => ?_) | with_reducible refine T.ok_leaf ?_)
        all_goals (try simp only [decide_eq_true_eq, decide_eq_false_iff_not, Bool.not_eq_true', Bool.not_eq_false', Bool.not_eq_eq_eq_not, Bool.not_true, Bool.not_false, Int.toNat_natCast, tab_len, List.length_append, List.length_singleton, List.length_cons, List.length_nil, List.length_drop, List.length_take, getD_drop', getD_nat] at *)
        all_goals (try simp (disch := omega) only [wrap64_id] at *)
        all_goals first | omega | (exfalso; omega) | trivial | contradiction | (exfalso; simp_all; done) | skip
    · have hs : seldomOk xs s = finM (seldomM xs s) := by unfold seldomOk; rw [hk, hk2]; simp
      have em : seldomM xs s = fdiv .f32 (seldomAt xs s k (xs.length - (k + 1))).1 (seldomAt xs s k (xs.length - (k + 1))).2.1 := by unfold seldomM; rw [hk2]; rfl
      simp only [T.ok, hs, ← em]; rfl
theorem k_spec_SeldomNeeds {P : Program} {f g1 g2 g3 g4 : FuncId} (h : Is_spec_SeldomNeeds P f g1 g2 g3 g4) (c1 : C_spec_l02Series P g1) (c2 : C_spec_l02Share P g2) (c3 : C_spec_l04Needs P g3) (c4 : C_spec_l02Number P g4) : C_spec_SeldomNeeds P f := by
  intro xs s hx
  refine q_spec_SeldomNeeds h xs s ⟨c1 xs hx, fun _ => ⟨fun h0 => ?_, fun h0 => ⟨c2 _, fun _ => ⟨fun h1 => ?_, fun h1 => ?_⟩⟩⟩⟩
  · simp at h0; simp [T.ok, seldomOk, needOk, h0]
  · simp at h1; simp [T.ok, seldomOk, needOk, h1]
  · simp at h0 h1
    have hl := series_len h0
    have hsl := series_less h0
    refine ⟨c3 xs hl.2, fun _ => ⟨fun h2 => ?_, fun h2 => ?_⟩⟩
    · have : seldomOk xs s = false := by
        unfold seldomOk needOk; rw [hsl]
        revert h2
        cases someLess xs <;> simp
        intro h2 _ _ h3; omega
      simp [T.ok, this]
    · simp at h2
      have hk : needOk xs s = true := by unfold needOk; rw [hsl, h0, h1, h2.1]; rfl
      obtain ⟨k, hk2, hkl⟩ := idx_nat (p := fun x => fgt .f32 x 0) (xs := xs) (show 0 ≤ needM xs from h2.2)
      have hk2 : needM xs = k := hk2
      rw [h2.1, hk2]
      simp only [Bool.false_eq_true, if_false, Int.toNat_natCast]
      rw [wrap64_id (by omega) (by omega)]
      refine ⟨by omega, fun _ => ⟨trivial, fun _ => ⟨?_, fun _ => ⟨trivial, fun _ => ⟨c4 _, fun _ => ?_⟩⟩⟩⟩⟩
      · refine for_up (e := .exit 0) (xs.length - (k + 1)) (fun j => h_spec_SeldomNeeds_L0 xs s (seldomAt xs s k j).1 (seldomAt xs s k j).2.1 (seldomAt xs s k j).2.2 (k + 1 + j : Nat)) rfl (fun j hj => ?_) ?_
        · refine q_spec_SeldomNeeds_L0 _ _ _ _ _ _ ?_
          have e : seldomAt xs s k (j + 1) = seldomStep xs s (k + 1 + j) (seldomAt xs s k j) := rfl
          have hb := seldom_bound xs s k j
          simp only [e]
          generalize seldomAt xs s k j = a at *
          unfold seldomStep
          repeat' (first | with_reducible refine T.ok_ob ?_ (fun _ => ?_) | with_reducible refine T.ok_ite (fun _ => ?_) (fun _ => ?_) | with_reducible refine T.ok_leaf ?_)
          all_goals (try simp only [decide_eq_true_eq, decide_eq_false_iff_not, Bool.not_eq_true', Bool.not_eq_false', Bool.not_eq_eq_eq_not, Bool.not_true, Bool.not_false, Int.toNat_natCast, tab_len, List.length_append, List.length_singleton, List.length_cons, List.length_nil, List.length_drop, List.length_take, getD_drop', getD_nat] at *)
          all_goals (try simp (disch := omega) only [wrap64_id] at *)
          all_goals first | omega | (exfalso; omega) | trivial | contradiction | (exfalso; simp_all; done) | skip
          all_goals (simp only [*, if_true, if_false, Bool.false_eq_true] <;> rfl)
        · refine q_spec_SeldomNeeds_L0 _ _ _ _ _ _ ?_
          rw [show k + 1 + (xs.length - (k + 1)) = xs.length by omega]
          repeat' (first | with_reducible refine T.ok_ob ?_ (fun _ => ?_) | with_reducible refine T.ok_ite (fun _ => ?_) (fun _ => ?_) | with_reducible refine T.ok_leaf ?_)
          all_goals (try simp only [decide_eq_true_eq, decide_eq_false_iff_not, Bool.not_eq_true', Bool.not_eq_false', Bool.not_eq_eq_eq_not, Bool.not_true, Bool.not_false, Int.toNat_natCast, tab_len, List.length_append, List.length_singleton, List.length_cons, List.length_nil, List.length_drop, List.length_take, getD_drop', getD_nat] at *)
          all_goals (try simp (disch := omega) only [wrap64_id] at *)
          all_goals first | omega | (exfalso; omega) | trivial | contradiction | (exfalso; simp_all; done) | skip
      · have hs : seldomOk xs s = finM (seldomM xs s) := by unfold seldomOk; rw [hk, hk2]; simp
        have em : seldomM xs s = fdiv .f32 (seldomAt xs s k (xs.length - (k + 1))).1 (seldomAt xs s k (xs.length - (k + 1))).2.1 := by unfold seldomM; rw [hk2]; rfl
        simp only [T.ok, hs, ← em]; rfl

/-- size and chance, one number on -/
def chanceStep (xs : List Nat) (s c : Nat) (i : Nat) (a : Nat × Nat) : Nat × Nat :=
  if fgt .f32 (xs.getD i 0) 0 = true then (fadd .f32 a.1 (fmul .f32 s (fsub .f32 (xs.getD i 0) a.1)), fadd .f32 a.2 (fmul .f32 c (fsub .f32 1065353216 a.2))) else (a.1, fadd .f32 a.2 (fmul .f32 c (fsub .f32 0 a.2)))
def chanceAt (xs : List Nat) (s c k n : Nat) : Nat × Nat := accN (fun j a => chanceStep xs s c (k + 1 + j) a) n (xs.getD k 0, fdiv .f32 1065353216 (fofi .f32 (k + 1)))
def chanceM (xs : List Nat) (s c : Nat) : Nat := let a := chanceAt xs s c (needM xs).toNat (xs.length - ((needM xs).toNat + 1)); fmul .f32 a.1 a.2
def chanceOk (xs : List Nat) (s c : Nat) : Bool := needOk xs s && (decide (needM xs ≥ 0) && (isShareM c && finM (chanceM xs s c)))

/-- impl.ChanceNeeds: slots 64, results [.t 6, .t 7]; calls [16:g_impl_firstNeed, 21:g_impl_isShare, 61:g_impl_ifFinite]; names [(list, 0), (share, 1), (chance, 2), (list, 3), (share, 4), (chance, 5), (first, 8), (size, 9), (likely, 10), (_, 11), (x, 12), (is, 13)] -/
def ps_impl_ChanceNeeds : List Nat := [0, 1, 2, 6, 7, 8, 9, 10, 12, 13, 23, 35, 36, 37, 38, 42]
def lv_impl_ChanceNeeds_L0 : List Nat := [1, 2, 9, 10, 35, 36, 37]
def b_impl_ChanceNeeds_L0 (g_impl_firstNeed g_impl_isShare g_impl_ifFinite : FuncId) : VCode :=
  (.seq
   (.region false [
    ⟨some 38, (.bin .lss), [.t 37, .t 36], none⟩])
   (.seq
    (.cond (.t 38)
     .skip
     (.exit 0))
    (.seq
     (.block 1
      (.seq
       (.region false [
        ⟨some 39, .iaddr, [.t 35, .t 37], none⟩,
        ⟨some 40, .load, [.t 39], none⟩,
        ⟨some 12, .mv, [.t 40], none⟩])
       (.seq
        (.region false [
         ⟨some 13, .mv, [.k (.f .f32 0)], none⟩])
        (.seq
         (.seq
          (.region false [
           ⟨some 41, .mv, [.t 12], none⟩,
           ⟨some 42, (.bin .gtr), [.t 41, .k (.f .f32 0)], none⟩])
          (.cond (.t 42)
           (.seq
            (.region false [
             ⟨some 13, .mv, [.k (.f .f32 1065353216)], none⟩])
            (.region false [
             ⟨some 43, .mv, [.t 9], none⟩,
             ⟨some 44, .mv, [.t 1], none⟩,
             ⟨some 45, .mv, [.t 12], none⟩,
             ⟨some 46, .mv, [.t 9], none⟩,
             ⟨some 47, (.bin .sub), [.t 45, .t 46], none⟩,
             ⟨some 48, (.bin .mul), [.t 44, .t 47], none⟩,
             ⟨some 49, (.bin .add), [.t 43, .t 48], none⟩,
             ⟨some 9, .mv, [.t 49], none⟩]))
           .skip))
         (.region false [
          ⟨some 50, .mv, [.t 10], none⟩,
          ⟨some 51, .mv, [.t 2], none⟩,
          ⟨some 52, .mv, [.t 13], none⟩,
          ⟨some 53, .mv, [.t 10], none⟩,
          ⟨some 54, (.bin .sub), [.t 52, .t 53], none⟩,
          ⟨some 55, (.bin .mul), [.t 51, .t 54], none⟩,
          ⟨some 56, (.bin .add), [.t 50, .t 55], none⟩,
          ⟨some 10, .mv, [.t 56], none⟩])))))
     (.region false [
      ⟨some 57, (.bin .add), [.t 37, .k (.i .i64 1)], none⟩,
      ⟨some 37, .mv, [.t 57], none⟩]))))

def b_impl_ChanceNeeds (g_impl_firstNeed g_impl_isShare g_impl_ifFinite : FuncId) : VCode :=
  (.seq
   (.region false [
    ⟨some 6, .mv, [.k (.f .f32 0)], none⟩,
    ⟨some 7, .mv, [.k (.b false)], none⟩])
   (.seq
    (.region false [
     ⟨some 14, .mv, [.t 0], none⟩,
     ⟨some 15, .mv, [.t 1], none⟩,
     ⟨some 16, (.call g_impl_firstNeed), [.t 14, .t 15], none⟩,
     ⟨some 8, .mv, [.t 16], none⟩])
    (.seq
     (.seq
      (.region false [
       ⟨some 17, .mv, [.t 8], none⟩,
       ⟨some 18, (.bin .lss), [.t 17, .k (.i .i64 0)], none⟩,
       ⟨some 19, .mv, [.t 18], none⟩,
       ⟨some 20, .mv, [.t 2], some (19, false)⟩,
       ⟨some 21, (.call g_impl_isShare), [.t 20], some (19, false)⟩,
       ⟨some 22, .not, [.t 21], some (19, false)⟩,
       ⟨some 23, .pick, [.t 19, .k (.b true), .t 22], none⟩])
      (.cond (.t 23)
       (.seq
        (.region false [
         ⟨some 6, .mv, [.k (.f .f32 0)], none⟩,
         ⟨some 7, .mv, [.k (.b false)], none⟩])
        .ret)
       .skip))
     (.seq
      (.region false [
       ⟨some 24, .mv, [.t 0], none⟩,
       ⟨some 25, .mv, [.t 8], none⟩,
       ⟨some 26, .iaddr, [.t 24, .t 25], none⟩,
       ⟨some 27, .load, [.t 26], none⟩,
       ⟨some 28, .mv, [.t 8], none⟩,
       ⟨some 29, (.bin .add), [.t 28, .k (.i .i64 1)], none⟩,
       ⟨some 30, (.convF .f32), [.t 29], none⟩,
       ⟨some 31, (.bin .quo), [.k (.f .f32 1065353216), .t 30], none⟩,
       ⟨some 9, .mv, [.t 27], none⟩,
       ⟨some 10, .mv, [.t 31], none⟩])
      (.seq
       (.seq
        (.region false [
         ⟨some 32, .mv, [.t 0], none⟩,
         ⟨some 33, .mv, [.t 8], none⟩,
         ⟨some 34, (.bin .add), [.t 33, .k (.i .i64 1)], none⟩,
         ⟨some 35, (.slice true false false), [.t 32, .t 34], none⟩,
         ⟨some 36, .len, [.t 35], none⟩,
         ⟨some 37, .mv, [.k (.i .i64 0)], none⟩])
        (.block 0 (.loop (b_impl_ChanceNeeds_L0 g_impl_firstNeed g_impl_isShare g_impl_ifFinite))))
       (.seq
        (.region false [
         ⟨some 58, .mv, [.t 9], none⟩,
         ⟨some 59, .mv, [.t 10], none⟩,
         ⟨some 60, (.bin .mul), [.t 58, .t 59], none⟩,
         ⟨some 61, (.call g_impl_ifFinite), [.t 60], none⟩,
         ⟨some 62, (.extract 0), [.t 61], none⟩,
         ⟨some 63, (.extract 1), [.t 61], none⟩,
         ⟨some 6, .mv, [.t 62], none⟩,
         ⟨some 7, .mv, [.t 63], none⟩])
        .ret))))))

abbrev Is_impl_ChanceNeeds (P : Program) (g_f : FuncId) (g_impl_firstNeed g_impl_isShare g_impl_ifFinite : FuncId) : Prop := FnIs P g_f 64 [.t 6, .t 7] (b_impl_ChanceNeeds g_impl_firstNeed g_impl_isShare g_impl_ifFinite)

abbrev C_impl_ChanceNeeds (P : Program) (g_f : FuncId) : Prop := ∀ (xs : List Nat) (s : Nat) (c : Nat) (hx : xs.length ≤ maxLen), VCall P g_f [PS [0] .f32 xs, .f .f32 s, .f .f32 c] (.tup [.f .f32 (if chanceOk xs s c = true then chanceM xs s c else 0), .b (chanceOk xs s c)])
def oc1_impl_ChanceNeeds (as : List AV) : T AV := match as with | [.sl _ _ (.f .f32 xs), .f .f32 s, .f .f32 c] => .leaf (.tup [.f .f32 (if chanceOk xs s c = true then chanceM xs s c else 0), .b (chanceOk xs s c)]) | _ => .fail
def oc_impl_ChanceNeeds (xs : List Nat) (s : Nat) (c : Nat) (d : Nat) (as : List AV) : T AV := match d with | 16 => oc1_impl_firstNeed as | 21 => oc1_impl_isShare as | 61 => oc1_impl_ifFinite as | _ => .fail
def h_impl_ChanceNeeds_L0 (xs : List Nat) (s : Nat) (c : Nat) (size : Nat) (likely : Nat) (v37 : Int) : Env := [.any, AV.f FloatKind.f32 s, AV.f FloatKind.f32 c] ++ anys 6 ++ [.f FloatKind.f32 size, .f FloatKind.f32 likely] ++ anys 24 ++ [AV.sl (Tag.par [0]) (0 + Int.toNat (IntKind.wrap IntKind.i64 (firstM xs s + 1)))
  (Cont.f FloatKind.f32 (List.take (List.length xs - Int.toNat (IntKind.wrap IntKind.i64 (firstM xs s + 1))) (List.drop (Int.toNat (IntKind.wrap IntKind.i64 (firstM xs s + 1))) xs))), AV.i IntKind.i64 (↑(List.length (List.take (List.length xs - Int.toNat (IntKind.wrap IntKind.i64 (firstM xs s + 1))) (List.drop (Int.toNat (IntKind.wrap IntKind.i64 (firstM xs s + 1))) xs))) : Int), .i IntKind.i64 v37] ++ anys 26

theorem q_impl_ChanceNeeds_L0 {VC : FuncId → List AV → AV → Prop} {g_impl_firstNeed g_impl_isShare g_impl_ifFinite : FuncId} (xs : List Nat) (s : Nat) (c : Nat) (size : Nat) (likely : Nat) (v37 : Int) {e_ : Ex} {σ_ : Env} (ht : T.ok (fun x_ => x_ = (e_, σ_)) (
      T.ite (decide (v37 < (↑(List.length (List.take (List.length xs - Int.toNat (IntKind.wrap IntKind.i64 (firstM xs s + 1))) (List.drop (Int.toNat (IntKind.wrap IntKind.i64 (firstM xs s + 1))) xs))) : Int)))
        (T.ob (0 ≤ v37 ∧ v37 < (↑(List.length (List.take (List.length xs - Int.toNat (IntKind.wrap IntKind.i64 (firstM xs s + 1))) (List.drop (Int.toNat (IntKind.wrap IntKind.i64 (firstM xs s + 1))) xs))) : Int))
          (T.ite (fgt FloatKind.f32 (List.getD (List.take (List.length xs - Int.toNat (IntKind.wrap IntKind.i64 (firstM xs s + 1))) (List.drop (Int.toNat (IntKind.wrap IntKind.i64 (firstM xs s + 1))) xs)) (Int.toNat v37) 0) 0)
            (T.leaf
              (Ex.normal,
                h_impl_ChanceNeeds_L0 xs s c
                  (fadd FloatKind.f32 size
                    (fmul FloatKind.f32 s
                      (fsub FloatKind.f32
                        (List.getD (List.take (List.length xs - Int.toNat (IntKind.wrap IntKind.i64 (firstM xs s + 1))) (List.drop (Int.toNat (IntKind.wrap IntKind.i64 (firstM xs s + 1))) xs)) (Int.toNat v37) 0) size)))
                  (fadd FloatKind.f32 likely (fmul FloatKind.f32 c (fsub FloatKind.f32 1065353216 likely))) (IntKind.wrap IntKind.i64 (v37 + 1))))
            (T.leaf (Ex.normal, h_impl_ChanceNeeds_L0 xs s c size (fadd FloatKind.f32 likely (fmul FloatKind.f32 c (fsub FloatKind.f32 0 likely))) (IntKind.wrap IntKind.i64 (v37 + 1))))))
        (T.leaf (Ex.exit 0, h_impl_ChanceNeeds_L0 xs s c size likely v37)))) :
    Exec VC ps_impl_ChanceNeeds (b_impl_ChanceNeeds_L0 g_impl_firstNeed g_impl_isShare g_impl_ifFinite) (h_impl_ChanceNeeds_L0 xs s c size likely v37) e_ σ_ := evL_of (lv := lv_impl_ChanceNeeds_L0) (rs := [6, 7]) (O := ⟨oc_impl_ChanceNeeds xs s c, fun _ _ => none⟩) (by kernel_rfl) ht

theorem q_impl_ChanceNeeds {P : Program} {g_f : FuncId} {g_impl_firstNeed g_impl_isShare g_impl_ifFinite : FuncId} (h_ : Is_impl_ChanceNeeds P g_f g_impl_firstNeed g_impl_isShare g_impl_ifFinite) (xs : List Nat) (s : Nat) (c : Nat) (ht : T.ok (fun x_ => x_ = .tup [.f .f32 (if chanceOk xs s c = true then chanceM xs s c else 0), .b (chanceOk xs s c)]) (
      T.ob ((VCall P) g_impl_firstNeed [AV.sl (Tag.par [0]) 0 (Cont.f FloatKind.f32 xs), AV.f FloatKind.f32 s] (AV.i IntKind.i64 (firstM xs s)))
        (T.ite (decide (firstM xs s < 0)) (T.leaf (AV.tup [AV.f FloatKind.f32 0, AV.b false]))
          (T.ob ((VCall P) g_impl_isShare [AV.f FloatKind.f32 c] (AV.b (isShareM c)))
            (T.ite (!isShareM c) (T.leaf (AV.tup [AV.f FloatKind.f32 0, AV.b false]))
              (T.ob (0 ≤ firstM xs s ∧ firstM xs s < (↑(List.length xs) : Int))
                (T.ob True
                  (T.ob True
                    (T.ob (0 ≤ IntKind.wrap IntKind.i64 (firstM xs s + 1) ∧ IntKind.wrap IntKind.i64 (firstM xs s + 1) ≤ (↑(List.length xs) : Int))
                      (T.ob
                        (Exec (VCall P) ps_impl_ChanceNeeds (VCode.block 0 (VCode.loop (b_impl_ChanceNeeds_L0 g_impl_firstNeed g_impl_isShare g_impl_ifFinite)))
                          (h_impl_ChanceNeeds_L0 xs s c (List.getD xs (Int.toNat (firstM xs s)) 0) (fdiv FloatKind.f32 1065353216 (fofi FloatKind.f32 (IntKind.wrap IntKind.i64 (firstM xs s + 1)))) 0) Ex.normal
                          (h_impl_ChanceNeeds_L0 xs s c (Prod.fst (chanceAt xs s c (Int.toNat (needM xs)) (List.length xs - (Int.toNat (needM xs) + 1))))
                            (Prod.snd (chanceAt xs s c (Int.toNat (needM xs)) (List.length xs - (Int.toNat (needM xs) + 1)))) (↑(List.length xs - (Int.toNat (needM xs) + 1)) : Int)))
                        (T.ob
                          ((VCall P) g_impl_ifFinite
                            [AV.f FloatKind.f32
                                (fmul FloatKind.f32 (Prod.fst (chanceAt xs s c (Int.toNat (needM xs)) (List.length xs - (Int.toNat (needM xs) + 1))))
                                  (Prod.snd (chanceAt xs s c (Int.toNat (needM xs)) (List.length xs - (Int.toNat (needM xs) + 1)))))]
                            (AV.tup
                              [AV.f FloatKind.f32
                                  (numM
                                    (fmul FloatKind.f32 (Prod.fst (chanceAt xs s c (Int.toNat (needM xs)) (List.length xs - (Int.toNat (needM xs) + 1))))
                                      (Prod.snd (chanceAt xs s c (Int.toNat (needM xs)) (List.length xs - (Int.toNat (needM xs) + 1)))))),
                                AV.b
                                  (finM
                                    (fmul FloatKind.f32 (Prod.fst (chanceAt xs s c (Int.toNat (needM xs)) (List.length xs - (Int.toNat (needM xs) + 1))))
                                      (Prod.snd (chanceAt xs s c (Int.toNat (needM xs)) (List.length xs - (Int.toNat (needM xs) + 1))))))]))
                          (T.leaf
                            (AV.tup
                              [AV.f FloatKind.f32
                                  (numM
                                    (fmul FloatKind.f32 (Prod.fst (chanceAt xs s c (Int.toNat (needM xs)) (List.length xs - (Int.toNat (needM xs) + 1))))
                                      (Prod.snd (chanceAt xs s c (Int.toNat (needM xs)) (List.length xs - (Int.toNat (needM xs) + 1)))))),
                                AV.b
                                  (finM
                                    (fmul FloatKind.f32 (Prod.fst (chanceAt xs s c (Int.toNat (needM xs)) (List.length xs - (Int.toNat (needM xs) + 1))))
                                      (Prod.snd (chanceAt xs s c (Int.toNat (needM xs)) (List.length xs - (Int.toNat (needM xs) + 1))))))]))))))))))))) :
    VCall P g_f [PS [0] .f32 xs, .f .f32 s, .f .f32 c] (.tup [.f .f32 (if chanceOk xs s c = true then chanceM xs s c else 0), .b (chanceOk xs s c)]) := h_.call_of ps_impl_ChanceNeeds ⟨oc_impl_ChanceNeeds xs s c, fun id σ => match id with | 0 => some (lv_impl_ChanceNeeds_L0, .leaf (.normal, h_impl_ChanceNeeds_L0 xs s c (chanceAt xs s c (needM xs).toNat (xs.length - ((needM xs).toNat + 1))).1 (chanceAt xs s c (needM xs).toNat (xs.length - ((needM xs).toNat + 1))).2 (xs.length - ((needM xs).toNat + 1) : Nat))) | _ => none⟩ (by kernel_rfl) ht


/-- spec.ChanceNeeds: slots 78, results [.t 6, .t 7]; calls [15:g_spec_l02Series, 19:g_spec_l02Share, 24:g_spec_l02Share, 29:g_spec_l04Needs, 75:g_spec_l02Number]; names [(list, 0), (share, 1), (chance, 2), (list, 3), (share, 4), (chance, 5), (first, 8), (ok, 9), (size, 10), (likely, 11), (i, 12), (told, 13)] -/
def ps_spec_ChanceNeeds : List Nat := [0, 1, 2, 6, 7, 8, 9, 10, 11, 12, 13, 26, 33, 47, 54]
def lv_spec_ChanceNeeds_L0 : List Nat := [0, 1, 2, 10, 11, 12]
def b_spec_ChanceNeeds_L0 (g_spec_l02Series g_spec_l02Share g_spec_l04Needs g_spec_l02Number : FuncId) : VCode :=
  (.seq
   (.seq
    (.region false [
     ⟨some 44, .mv, [.t 12], none⟩,
     ⟨some 45, .mv, [.t 0], none⟩,
     ⟨some 46, .len, [.t 45], none⟩,
     ⟨some 47, (.bin .lss), [.t 44, .t 46], none⟩])
    (.cond (.t 47)
     .skip
     (.exit 0)))
   (.seq
    (.block 1
     (.seq
      (.region false [
       ⟨some 13, .mv, [.k (.f .f32 0)], none⟩])
      (.seq
       (.seq
        (.region false [
         ⟨some 50, .mv, [.t 0], none⟩,
         ⟨some 51, .mv, [.t 12], none⟩,
         ⟨some 52, .iaddr, [.t 50, .t 51], none⟩,
         ⟨some 53, .load, [.t 52], none⟩,
         ⟨some 54, (.bin .gtr), [.t 53, .k (.f .f32 0)], none⟩])
        (.cond (.t 54)
         (.seq
          (.region false [
           ⟨some 13, .mv, [.k (.f .f32 1065353216)], none⟩])
          (.region false [
           ⟨some 55, .mv, [.t 10], none⟩,
           ⟨some 56, .mv, [.t 1], none⟩,
           ⟨some 57, .mv, [.t 0], none⟩,
           ⟨some 58, .mv, [.t 12], none⟩,
           ⟨some 59, .iaddr, [.t 57, .t 58], none⟩,
           ⟨some 60, .load, [.t 59], none⟩,
           ⟨some 61, .mv, [.t 10], none⟩,
           ⟨some 62, (.bin .sub), [.t 60, .t 61], none⟩,
           ⟨some 63, (.bin .mul), [.t 56, .t 62], none⟩,
           ⟨some 64, (.bin .add), [.t 55, .t 63], none⟩,
           ⟨some 10, .mv, [.t 64], none⟩]))
         .skip))
       (.region false [
        ⟨some 65, .mv, [.t 11], none⟩,
        ⟨some 66, .mv, [.t 2], none⟩,
        ⟨some 67, .mv, [.t 13], none⟩,
        ⟨some 68, .mv, [.t 11], none⟩,
        ⟨some 69, (.bin .sub), [.t 67, .t 68], none⟩,
        ⟨some 70, (.bin .mul), [.t 66, .t 69], none⟩,
        ⟨some 71, (.bin .add), [.t 65, .t 70], none⟩,
        ⟨some 11, .mv, [.t 71], none⟩]))))
    (.region false [
     ⟨some 48, .mv, [.t 12], none⟩,
     ⟨some 49, (.bin .add), [.t 48, .k (.i .i64 1)], none⟩,
     ⟨some 12, .mv, [.t 49], none⟩])))

def b_spec_ChanceNeeds (g_spec_l02Series g_spec_l02Share g_spec_l04Needs g_spec_l02Number : FuncId) : VCode :=
  (.seq
   (.region false [
    ⟨some 6, .mv, [.k (.f .f32 0)], none⟩,
    ⟨some 7, .mv, [.k (.b false)], none⟩])
   (.seq
    (.seq
     (.region false [
      ⟨some 14, .mv, [.t 0], none⟩,
      ⟨some 15, (.call g_spec_l02Series), [.t 14], none⟩,
      ⟨some 16, .not, [.t 15], none⟩,
      ⟨some 17, .mv, [.t 16], none⟩,
      ⟨some 18, .mv, [.t 1], some (17, false)⟩,
      ⟨some 19, (.call g_spec_l02Share), [.t 18], some (17, false)⟩,
      ⟨some 20, .not, [.t 19], some (17, false)⟩,
      ⟨some 21, .pick, [.t 17, .k (.b true), .t 20], none⟩,
      ⟨some 22, .mv, [.t 21], none⟩,
      ⟨some 23, .mv, [.t 2], some (22, false)⟩,
      ⟨some 24, (.call g_spec_l02Share), [.t 23], some (22, false)⟩,
      ⟨some 25, .not, [.t 24], some (22, false)⟩,
      ⟨some 26, .pick, [.t 22, .k (.b true), .t 25], none⟩])
     (.cond (.t 26)
      (.seq
       (.region false [
        ⟨some 6, .mv, [.k (.f .f32 0)], none⟩,
        ⟨some 7, .mv, [.k (.b false)], none⟩])
       .ret)
      .skip))
    (.seq
     (.region false [
      ⟨some 28, .mv, [.t 0], none⟩,
      ⟨some 29, (.call g_spec_l04Needs), [.t 28], none⟩,
      ⟨some 27, .mv, [.t 29], none⟩,
      ⟨some 30, (.extract 0), [.t 27], none⟩,
      ⟨some 31, (.extract 1), [.t 27], none⟩,
      ⟨some 8, .mv, [.t 30], none⟩,
      ⟨some 9, .mv, [.t 31], none⟩])
     (.seq
      (.seq
       (.region false [
        ⟨some 32, .mv, [.t 9], none⟩,
        ⟨some 33, .not, [.t 32], none⟩])
       (.cond (.t 33)
        (.seq
         (.region false [
          ⟨some 6, .mv, [.k (.f .f32 0)], none⟩,
          ⟨some 7, .mv, [.k (.b false)], none⟩])
         .ret)
        .skip))
      (.seq
       (.region false [
        ⟨some 34, .mv, [.t 0], none⟩,
        ⟨some 35, .mv, [.t 8], none⟩,
        ⟨some 36, .iaddr, [.t 34, .t 35], none⟩,
        ⟨some 37, .load, [.t 36], none⟩,
        ⟨some 10, .mv, [.t 37], none⟩])
       (.seq
        (.region false [
         ⟨some 38, .mv, [.t 8], none⟩,
         ⟨some 39, (.bin .add), [.t 38, .k (.i .i64 1)], none⟩,
         ⟨some 40, (.convF .f32), [.t 39], none⟩,
         ⟨some 41, (.bin .quo), [.k (.f .f32 1065353216), .t 40], none⟩,
         ⟨some 11, .mv, [.t 41], none⟩])
        (.seq
         (.seq
          (.region false [
           ⟨some 42, .mv, [.t 8], none⟩,
           ⟨some 43, (.bin .add), [.t 42, .k (.i .i64 1)], none⟩,
           ⟨some 12, .mv, [.t 43], none⟩])
          (.block 0 (.loop (b_spec_ChanceNeeds_L0 g_spec_l02Series g_spec_l02Share g_spec_l04Needs g_spec_l02Number))))
         (.seq
          (.region false [
           ⟨some 72, .mv, [.t 10], none⟩,
           ⟨some 73, .mv, [.t 11], none⟩,
           ⟨some 74, (.bin .mul), [.t 72, .t 73], none⟩,
           ⟨some 75, (.call g_spec_l02Number), [.t 74], none⟩,
           ⟨some 76, (.extract 0), [.t 75], none⟩,
           ⟨some 77, (.extract 1), [.t 75], none⟩,
           ⟨some 6, .mv, [.t 76], none⟩,
           ⟨some 7, .mv, [.t 77], none⟩])
          .ret))))))))

abbrev Is_spec_ChanceNeeds (P : Program) (g_f : FuncId) (g_spec_l02Series g_spec_l02Share g_spec_l04Needs g_spec_l02Number : FuncId) : Prop := FnIs P g_f 78 [.t 6, .t 7] (b_spec_ChanceNeeds g_spec_l02Series g_spec_l02Share g_spec_l04Needs g_spec_l02Number)

abbrev C_spec_ChanceNeeds (P : Program) (g_f : FuncId) : Prop := ∀ (xs : List Nat) (s : Nat) (c : Nat) (hx : xs.length ≤ maxLen), VCall P g_f [PS [0] .f32 xs, .f .f32 s, .f .f32 c] (.tup [.f .f32 (if chanceOk xs s c = true then chanceM xs s c else 0), .b (chanceOk xs s c)])
def oc1_spec_ChanceNeeds (as : List AV) : T AV := match as with | [.sl _ _ (.f .f32 xs), .f .f32 s, .f .f32 c] => .leaf (.tup [.f .f32 (if chanceOk xs s c = true then chanceM xs s c else 0), .b (chanceOk xs s c)]) | _ => .fail
def oc_spec_ChanceNeeds (xs : List Nat) (s : Nat) (c : Nat) (d : Nat) (as : List AV) : T AV := match d with | 15 => oc1_spec_l02Series as | 19 => oc1_spec_l02Share as | 24 => oc1_spec_l02Share as | 29 => oc1_spec_l04Needs as | 75 => oc1_spec_l02Number as | _ => .fail
def h_spec_ChanceNeeds_L0 (xs : List Nat) (s : Nat) (c : Nat) (size : Nat) (likely : Nat) (i : Int) : Env := [AV.sl (Tag.par [0]) 0 (Cont.f FloatKind.f32 xs), AV.f FloatKind.f32 s, AV.f FloatKind.f32 c] ++ anys 7 ++ [.f FloatKind.f32 size, .f FloatKind.f32 likely, .i IntKind.i64 i] ++ anys 65

theorem q_spec_ChanceNeeds_L0 {VC : FuncId → List AV → AV → Prop} {g_spec_l02Series g_spec_l02Share g_spec_l04Needs g_spec_l02Number : FuncId} (xs : List Nat) (s : Nat) (c : Nat) (size : Nat) (likely : Nat) (i : Int) {e_ : Ex} {σ_ : Env} (ht : T.ok (fun x_ => x_ = (e_, σ_)) (
      T.ite (decide (i < (↑(List.length xs) : Int)))
        (T.ob (0 ≤ i ∧ i < (↑(List.length xs) : Int))
          (T.ite (fgt FloatKind.f32 (List.getD xs (Int.toNat i) 0) 0)
            (T.ob (0 ≤ i ∧ i < (↑(List.length xs) : Int))
              (T.leaf
                (Ex.normal,
                  h_spec_ChanceNeeds_L0 xs s c (fadd FloatKind.f32 size (fmul FloatKind.f32 s (fsub FloatKind.f32 (List.getD xs (Int.toNat i) 0) size)))
                    (fadd FloatKind.f32 likely (fmul FloatKind.f32 c (fsub FloatKind.f32 1065353216 likely))) (IntKind.wrap IntKind.i64 (i + 1)))))
            (T.leaf (Ex.normal, h_spec_ChanceNeeds_L0 xs s c size (fadd FloatKind.f32 likely (fmul FloatKind.f32 c (fsub FloatKind.f32 0 likely))) (IntKind.wrap IntKind.i64 (i + 1))))))
        (T.leaf (Ex.exit 0, h_spec_ChanceNeeds_L0 xs s c size likely i)))) :
    Exec VC ps_spec_ChanceNeeds (b_spec_ChanceNeeds_L0 g_spec_l02Series g_spec_l02Share g_spec_l04Needs g_spec_l02Number) (h_spec_ChanceNeeds_L0 xs s c size likely i) e_ σ_ := evL_of (lv := lv_spec_ChanceNeeds_L0) (rs := [6, 7]) (O := ⟨oc_spec_ChanceNeeds xs s c, fun _ _ => none⟩) (by kernel_rfl) ht

theorem q_spec_ChanceNeeds {P : Program} {g_f : FuncId} {g_spec_l02Series g_spec_l02Share g_spec_l04Needs g_spec_l02Number : FuncId} (h_ : Is_spec_ChanceNeeds P g_f g_spec_l02Series g_spec_l02Share g_spec_l04Needs g_spec_l02Number) (xs : List Nat) (s : Nat) (c : Nat) (ht : T.ok (fun x_ => x_ = .tup [.f .f32 (if chanceOk xs s c = true then chanceM xs s c else 0), .b (chanceOk xs s c)]) (
      T.ob ((VCall P) g_spec_l02Series [AV.sl (Tag.par [0]) 0 (Cont.f FloatKind.f32 xs)] (AV.b (seriesM xs)))
        (T.ite (!seriesM xs) (T.leaf (AV.tup [AV.f FloatKind.f32 0, AV.b false]))
          (T.ob ((VCall P) g_spec_l02Share [AV.f FloatKind.f32 s] (AV.b (isShareM s)))
            (T.ite (!isShareM s) (T.leaf (AV.tup [AV.f FloatKind.f32 0, AV.b false]))
              (T.ob ((VCall P) g_spec_l02Share [AV.f FloatKind.f32 c] (AV.b (isShareM c)))
                (T.ite (!isShareM c) (T.leaf (AV.tup [AV.f FloatKind.f32 0, AV.b false]))
                  (T.ob ((VCall P) g_spec_l04Needs [AV.sl (Tag.par [0]) 0 (Cont.f FloatKind.f32 xs)] (AV.tup [AV.i IntKind.i64 (if someLess xs = true then 0 else needM xs), AV.b (!someLess xs && decide (needM xs ≥ 0))]))
                    (T.ite (!(!someLess xs && decide (needM xs ≥ 0))) (T.leaf (AV.tup [AV.f FloatKind.f32 0, AV.b false]))
                      (T.ob ((0 ≤ if someLess xs = true then 0 else needM xs) ∧ (if someLess xs = true then 0 else needM xs) < (↑(List.length xs) : Int))
                        (T.ob True
                          (T.ob True
                            (T.ob
                              (Exec (VCall P) ps_spec_ChanceNeeds (VCode.block 0 (VCode.loop (b_spec_ChanceNeeds_L0 g_spec_l02Series g_spec_l02Share g_spec_l04Needs g_spec_l02Number)))
                                (h_spec_ChanceNeeds_L0 xs s c (List.getD xs (Int.toNat (if someLess xs = true then 0 else needM xs)) 0)
                                  (fdiv FloatKind.f32 1065353216 (fofi FloatKind.f32 (IntKind.wrap IntKind.i64 ((if someLess xs = true then 0 else needM xs) + 1))))
                                  (IntKind.wrap IntKind.i64 ((if someLess xs = true then 0 else needM xs) + 1)))
                                Ex.normal
                                (h_spec_ChanceNeeds_L0 xs s c (Prod.fst (chanceAt xs s c (Int.toNat (needM xs)) (List.length xs - (Int.toNat (needM xs) + 1))))
                                  (Prod.snd (chanceAt xs s c (Int.toNat (needM xs)) (List.length xs - (Int.toNat (needM xs) + 1)))) (↑(List.length xs) : Int)))
                              (T.ob
                                ((VCall P) g_spec_l02Number
                                  [AV.f FloatKind.f32
                                      (fmul FloatKind.f32 (Prod.fst (chanceAt xs s c (Int.toNat (needM xs)) (List.length xs - (Int.toNat (needM xs) + 1))))
                                        (Prod.snd (chanceAt xs s c (Int.toNat (needM xs)) (List.length xs - (Int.toNat (needM xs) + 1)))))]
                                  (AV.tup
                                    [AV.f FloatKind.f32
                                        (numM
                                          (fmul FloatKind.f32 (Prod.fst (chanceAt xs s c (Int.toNat (needM xs)) (List.length xs - (Int.toNat (needM xs) + 1))))
                                            (Prod.snd (chanceAt xs s c (Int.toNat (needM xs)) (List.length xs - (Int.toNat (needM xs) + 1)))))),
                                      AV.b
                                        (finM
                                          (fmul FloatKind.f32 (Prod.fst (chanceAt xs s c (Int.toNat (needM xs)) (List.length xs - (Int.toNat (needM xs) + 1))))
                                            (Prod.snd (chanceAt xs s c (Int.toNat (needM xs)) (List.length xs - (Int.toNat (needM xs) + 1))))))]))
                                (T.leaf
                                  (AV.tup
                                    [AV.f FloatKind.f32
                                        (numM
                                          (fmul FloatKind.f32 (Prod.fst (chanceAt xs s c (Int.toNat (needM xs)) (List.length xs - (Int.toNat (needM xs) + 1))))
                                            (Prod.snd (chanceAt xs s c (Int.toNat (needM xs)) (List.length xs - (Int.toNat (needM xs) + 1)))))),
                                      AV.b
                                        (finM
                                          (fmul FloatKind.f32 (Prod.fst (chanceAt xs s c (Int.toNat (needM xs)) (List.length xs - (Int.toNat (needM xs) + 1))))
                                            (Prod.snd (chanceAt xs s c (Int.toNat (needM xs)) (List.length xs - (Int.toNat (needM xs) + 1))))))])))))))))))))))) :
    VCall P g_f [PS [0] .f32 xs, .f .f32 s, .f .f32 c] (.tup [.f .f32 (if chanceOk xs s c = true then chanceM xs s c else 0), .b (chanceOk xs s c)]) := h_.call_of ps_spec_ChanceNeeds ⟨oc_spec_ChanceNeeds xs s c, fun id σ => match id with | 0 => some (lv_spec_ChanceNeeds_L0, .leaf (.normal, h_spec_ChanceNeeds_L0 xs s c (chanceAt xs s c (needM xs).toNat (xs.length - ((needM xs).toNat + 1))).1 (chanceAt xs s c (needM xs).toNat (xs.length - ((needM xs).toNat + 1))).2 xs.length)) | _ => none⟩ (by kernel_rfl) ht


theorem k_impl_ChanceNeeds {P : Program} {f g1 g2 g3 : FuncId} (h : Is_impl_ChanceNeeds P f g1 g2 g3) (c1 : C_impl_firstNeed P g1) (c2 : C_impl_isShare P g2) (c3 : C_impl_ifFinite P g3) : C_impl_ChanceNeeds P f := by
  intro xs s c hx
  have a1 := c1 xs s hx
  refine q_impl_ChanceNeeds h xs s c ⟨a1, fun _ => ⟨fun h0 => ?_, fun h0 => ⟨c2 _, fun _ => ⟨fun h1 => ?_, fun h1 => ?_⟩⟩⟩⟩
  · have h0 := of_decide_eq_true h0
    have : chanceOk xs s c = false := by
      unfold firstM at h0; unfold chanceOk
      split at h0
      · have : ¬ (needM xs ≥ 0) := by omega
        simp [this]
      · rename_i h1; simp [h1]
    simp [T.ok, this]
  · simp at h1; simp [T.ok, chanceOk, h1]
  · have h0 := of_decide_eq_false h0
    have h1 : isShareM c = true := by simpa using h1
    have hk : needOk xs s = true := by
      unfold firstM at h0
      split at h0
      · assumption
      · omega
    have hf : firstM xs s = needM xs := by unfold firstM; rw [if_pos hk]
    have hl := needOk_len hk
    obtain ⟨k, hk2, hkl⟩ := idx_nat (p := fun x => fgt .f32 x 0) (xs := xs) (show 0 ≤ needM xs by omega)
    have hk2 : needM xs = k := hk2
    have hf2 : firstM xs s = k := hf.trans hk2
    have hw : Int.toNat (IntKind.wrap IntKind.i64 (k + 1)) = k + 1 := by rw [wrap64_id (by omega) (by omega)]; omega
    rw [hf2, hk2, Int.toNat_natCast, wrap64_id (by omega) (by omega)]
    refine ⟨by omega, fun _ => ⟨trivial, fun _ => ⟨trivial, fun _ => ⟨by omega, fun _ => ⟨?_, fun _ => ⟨c3 _, fun _ => ?_⟩⟩⟩⟩⟩⟩
    · refine for_up (e := .exit 0) (xs.length - (k + 1)) (fun j => h_impl_ChanceNeeds_L0 xs s c (chanceAt xs s c k j).1 (chanceAt xs s c k j).2 (j : Nat)) rfl (fun j hj => ?_) ?_
      · refine q_impl_ChanceNeeds_L0 _ _ _ _ _ _ ?_
        rw [hf2, hw, drop_all]
        have e : chanceAt xs s c k (j + 1) = chanceStep xs s c (k + 1 + j) (chanceAt xs s c k j) := rfl
        simp only [e]
        generalize chanceAt xs s c k j = a at *
        unfold chanceStep
        repeat' (first | with_reducible refine T.ok_ob ?_ (fun _ => ?_) | with_reducible refine T.ok_ite (fun _ => ?_) (fun _ => ?_) | with_reducible refine T.ok_leaf ?_)
        all_goals (try simp only [decide_eq_true_eq, decide_eq_false_iff_not, Bool.not_eq_true', Bool.not_eq_false', Bool.not_eq_eq_eq_not, Bool.not_true, Bool.not_false, Int.toNat_natCast, tab_len, List.length_append, List.length_singleton, List.length_cons, List.length_nil, List.length_drop, List.length_take, getD_drop', getD_nat] at *)
        all_goals (try simp (disch := omega) only [wrap64_id] at *)
        all_goals first | omega | (exfalso; omega) | trivial | contradiction | (exfalso; simp_all; done) | skip
        all_goals (simp only [*, if_true, if_false, Bool.false_eq_true] <;> rfl)
      · refine q_impl_ChanceNeeds_L0 _ _ _ _ _ _ ?_
        rw [hf2, hw, drop_all]
        repeat' (first | with_reducible refine T.ok_ob ?_ (fun _ => ?_) | with_reducible refine T.ok_ite (fun _ => ?_) (fun _ => ?_) | with_reducible refine T.ok_leaf ?_)
        all_goals (try simp only [decide_eq_true_eq, decide_eq_false_iff_not, Bool.not_eq_true', Bool.not_eq_false', Bool.not_eq_eq_eq_not, Bool.not_true, Bool.not_false, Int.toNat_natCast, tab_len, List.length_append, List.length_singleton, List.length_cons, List.length_nil, List.length_drop, List.length_take, getD_drop', getD_nat] at *)
        all_goals (try simp (disch := omega) only [wrap64_id] at *)
        all_goals first | omega | (exfalso; omega) | trivial | contradiction | (exfalso; simp_all; done) | skip
    · have hs : chanceOk xs s c = finM (chanceM xs s c) := by unfold chanceOk; rw [hk, hk2, h1]; simp
      have em : chanceM xs s c = fmul .f32 (chanceAt xs s c k (xs.length - (k + 1))).1 (chanceAt xs s c k (xs.length - (k + 1))).2 := by unfold chanceM; rw [hk2]; rfl
      simp only [T.ok, hs, ← em]; rfl
theorem k_spec_ChanceNeeds {P : Program} {f g1 g2 g3 g4 : FuncId} (h : Is_spec_ChanceNeeds P f g1 g2 g3 g4) (c1 : C_spec_l02Series P g1) (c2 : C_spec_l02Share P g2) (c3 : C_spec_l04Needs P g3) (c4 : C_spec_l02Number P g4) : C_spec_ChanceNeeds P f := by
  intro xs s c hx
  refine q_spec_ChanceNeeds h xs s c ⟨c1 xs hx, fun _ => ⟨fun h0 => ?_, fun h0 => ⟨c2 _, fun _ => ⟨fun h1 => ?_, fun h1 => ⟨c2 _, fun _ => ⟨fun h2 => ?_, fun h2 => ?_⟩⟩⟩⟩⟩⟩
  · simp at h0; simp [T.ok, chanceOk, needOk, h0]
  · simp at h1; simp [T.ok, chanceOk, needOk, h1]
  · simp at h2; simp [T.ok, chanceOk, h2]
  · simp at h0 h1
    have hc : isShareM c = true := by simpa using h2
    have hl := series_len h0
    have hsl := series_less h0
    refine ⟨c3 xs hl.2, fun _ => ⟨fun h2 => ?_, fun h2 => ?_⟩⟩
    · have : chanceOk xs s c = false := by
        unfold chanceOk needOk; rw [hsl]
        revert h2
        cases someLess xs <;> simp
        intro h2 _ _ h3; omega
      simp [T.ok, this]
    · simp at h2
      have hk : needOk xs s = true := by unfold needOk; rw [hsl, h0, h1, h2.1]; rfl
      obtain ⟨k, hk2, hkl⟩ := idx_nat (p := fun x => fgt .f32 x 0) (xs := xs) (show 0 ≤ needM xs from h2.2)
      have hk2 : needM xs = k := hk2
      rw [h2.1, hk2]
      simp only [Bool.false_eq_true, if_false, Int.toNat_natCast]
      rw [wrap64_id (by omega) (by omega)]
      refine ⟨by omega, fun _ => ⟨trivial, fun _ => ⟨trivial, fun _ => ⟨?_, fun _ => ⟨c4 _, fun _ => ?_⟩⟩⟩⟩⟩
      · refine for_up (e := .exit 0) (xs.length - (k + 1)) (fun j => h_spec_ChanceNeeds_L0 xs s c (chanceAt xs s c k j).1 (chanceAt xs s c k j).2 (k + 1 + j : Nat)) rfl (fun j hj => ?_) ?_
        · refine q_spec_ChanceNeeds_L0 _ _ _ _ _ _ ?_
          have e : chanceAt xs s c k (j + 1) = chanceStep xs s c (k + 1 + j) (chanceAt xs s c k j) := rfl
          simp only [e]
          generalize chanceAt xs s c k j = a at *
          unfold chanceStep
          repeat' (first | with_reducible refine T.ok_ob ?_ (fun _ => ?_) | with_reducible refine T.ok_ite (fun _ => ?_) (fun _ => ?_) | with_reducible refine T.ok_leaf ?_)
          all_goals (try simp only [decide_eq_true_eq, decide_eq_false_iff_not, Bool.not_eq_true', Bool.not_eq_false', Bool.not_eq_eq_eq_not, Bool.not_true, Bool.not_false, Int.toNat_natCast, tab_len, List.length_append, List.length_singleton, List.length_cons, List.length_nil, List.length_drop, List.length_take, getD_drop', getD_nat] at *)
          all_goals (try simp (disch := omega) only [wrap64_id] at *)
          all_goals first | omega | (exfalso; omega) | trivial | contradiction | (exfalso; simp_all; done) | skip
          all_goals (simp only [*, if_true, if_false, Bool.false_eq_true] <;> rfl)
        · refine q_spec_ChanceNeeds_L0 _ _ _ _ _ _ ?_
          rw [show k + 1 + (xs.length - (k + 1)) = xs.length by omega]
          repeat' (first | with_reducible refine T.ok_ob ?_ (fun _ => ?_) | with_reducible refine T.ok_ite (fun _ => ?_) (fun _ => ?_) | with_reducible refine T.ok_leaf ?_)
          all_goals (try simp only [decide_eq_true_eq, decide_eq_false_iff_not, Bool.not_eq_true', Bool.not_eq_false', Bool.not_eq_eq_eq_not, Bool.not_true, Bool.not_false, Int.toNat_natCast, tab_len, List.length_append, List.length_singleton, List.length_cons, List.length_nil, List.length_drop, List.length_take, getD_drop', getD_nat] at *)
          all_goals (try simp (disch := omega) only [wrap64_id] at *)
          all_goals first | omega | (exfalso; omega) | trivial | contradiction | (exfalso; simp_all; done) | skip
      · have hs : chanceOk xs s c = finM (chanceM xs s c) := by unfold chanceOk; rw [hk, hk2, hc]; simp
        have em : chanceM xs s c = fmul .f32 (chanceAt xs s c k (xs.length - (k + 1))).1 (chanceAt xs s c k (xs.length - (k + 1))).2 := by unfold chanceM; rw [hk2]; rfl
        simp only [T.ok, hs, ← em]; rfl

/-! ### guesses -/
def guessM (l s : Nat) (xs : List Nat) (t : Int) (d : Nat) : Nat := fadd .f32 (fadd .f32 l (fmul .f32 d s)) (xs.getD t.toNat 0)
def sharesM (a b c d : Nat) : Bool := isShareM a && isShareM b && isShareM c && isShareM d
def guessOk (l s : Nat) (xs : List Nat) (t : Int) (a b c d : Nat) : Bool := validStateM l s xs t && (sharesM a b c d && finM (guessM l s xs t d))

/-- impl.ValidShares: slots 21, results [.t 2]; calls [5:g_impl_isShare, 9:g_impl_isShare, 14:g_impl_isShare, 19:g_impl_isShare]; names [(h, 0), (h, 1)] -/
def ps_impl_ValidShares : List Nat := [0, 1, 2]
def b_impl_ValidShares (g_impl_isShare : FuncId) : VCode :=
  (.seq
   (.region false [
    ⟨some 1, .boxN, [.t 0], none⟩,
    ⟨some 2, .mv, [.k (.b false)], none⟩])
   (.seq
    (.region false [
     ⟨some 3, (.faddr 0), [.t 1], none⟩,
     ⟨some 4, .load, [.t 3], none⟩,
     ⟨some 5, (.call g_impl_isShare), [.t 4], none⟩,
     ⟨some 6, .mv, [.t 5], none⟩,
     ⟨some 7, (.faddr 1), [.t 1], some (6, true)⟩,
     ⟨some 8, .load, [.t 7], some (6, true)⟩,
     ⟨some 9, (.call g_impl_isShare), [.t 8], some (6, true)⟩,
     ⟨some 10, .pick, [.t 6, .t 9, .k (.b false)], none⟩,
     ⟨some 11, .mv, [.t 10], none⟩,
     ⟨some 12, (.faddr 2), [.t 1], some (11, true)⟩,
     ⟨some 13, .load, [.t 12], some (11, true)⟩,
     ⟨some 14, (.call g_impl_isShare), [.t 13], some (11, true)⟩,
     ⟨some 15, .pick, [.t 11, .t 14, .k (.b false)], none⟩,
     ⟨some 16, .mv, [.t 15], none⟩,
     ⟨some 17, (.faddr 3), [.t 1], some (16, true)⟩,
     ⟨some 18, .load, [.t 17], some (16, true)⟩,
     ⟨some 19, (.call g_impl_isShare), [.t 18], some (16, true)⟩,
     ⟨some 20, .pick, [.t 16, .t 19, .k (.b false)], none⟩,
     ⟨some 2, .mv, [.t 20], none⟩])
    .ret))

abbrev Is_impl_ValidShares (P : Program) (g_f : FuncId) (g_impl_isShare : FuncId) : Prop := FnIs P g_f 21 [.t 2] (b_impl_ValidShares g_impl_isShare)

abbrev C_impl_ValidShares (P : Program) (g_f : FuncId) : Prop := ∀ (a : Nat) (b : Nat) (c : Nat) (d : Nat), VCall P g_f [.agg (F4 a b c d)] (.b (sharesM a b c d))
def oc1_impl_ValidShares (as : List AV) : T AV := match as with | [.agg [.f _ a, .f _ b, .f _ c, .f _ d]] => .leaf (.b (sharesM a b c d)) | _ => .fail
def oc_impl_ValidShares (a : Nat) (b : Nat) (c : Nat) (d : Nat) (d : Nat) (as : List AV) : T AV := match d with | 5 => oc1_impl_isShare as | 9 => oc1_impl_isShare as | 14 => oc1_impl_isShare as | 19 => oc1_impl_isShare as | _ => .fail



theorem q_impl_ValidShares {P : Program} {g_f : FuncId} {g_impl_isShare : FuncId} (h_ : Is_impl_ValidShares P g_f g_impl_isShare) (a : Nat) (b : Nat) (c : Nat) (d : Nat) (ht : T.ok (fun x_ => x_ = .b (sharesM a b c d)) (
      T.ob (false = false)
        (T.ob ((VCall P) g_impl_isShare [AV.f FloatKind.f32 a] (AV.b (isShareM a)))
          (T.ite (isShareM a)
            (T.ob ((VCall P) g_impl_isShare [AV.f FloatKind.f32 b] (AV.b (isShareM b)))
              (T.ite (isShareM b)
                (T.ob ((VCall P) g_impl_isShare [AV.f FloatKind.f32 c] (AV.b (isShareM c)))
                  (T.ite (isShareM c) (T.ob ((VCall P) g_impl_isShare [AV.f FloatKind.f32 d] (AV.b (isShareM d))) (T.leaf (AV.b (isShareM d)))) (T.leaf (AV.b false))))
                (T.leaf (AV.b false))))
            (T.leaf (AV.b false)))))) :
    VCall P g_f [.agg (F4 a b c d)] (.b (sharesM a b c d)) := h_.call_of ps_impl_ValidShares ⟨oc_impl_ValidShares a b c d, fun _ _ => none⟩ (by kernel_rfl) ht


/-- spec.l04Shares: slots 29, results [.t 2]; calls [7:g_spec_l02Share, 13:g_spec_l02Share, 20:g_spec_l02Share, 27:g_spec_l02Share]; names [(h, 0), (h, 1)] -/
def ps_spec_l04Shares : List Nat := [0, 2]
def b_spec_l04Shares (g_spec_l02Share : FuncId) : VCode :=
  (.seq
   (.region false [
    ⟨some 2, .mv, [.k (.b false)], none⟩])
   (.seq
    (.region false [
     ⟨some 3, .mv, [.t 0], none⟩,
     ⟨some 4, .nilck, [.t 3], none⟩,
     ⟨some 5, (.faddr 0), [.t 4], none⟩,
     ⟨some 6, .load, [.t 5], none⟩,
     ⟨some 7, (.call g_spec_l02Share), [.t 6], none⟩,
     ⟨some 8, .mv, [.t 7], none⟩,
     ⟨some 9, .mv, [.t 0], some (8, true)⟩,
     ⟨some 10, .nilck, [.t 9], some (8, true)⟩,
     ⟨some 11, (.faddr 1), [.t 10], some (8, true)⟩,
     ⟨some 12, .load, [.t 11], some (8, true)⟩,
     ⟨some 13, (.call g_spec_l02Share), [.t 12], some (8, true)⟩,
     ⟨some 14, .pick, [.t 8, .t 13, .k (.b false)], none⟩,
     ⟨some 15, .mv, [.t 14], none⟩,
     ⟨some 16, .mv, [.t 0], some (15, true)⟩,
     ⟨some 17, .nilck, [.t 16], some (15, true)⟩,
     ⟨some 18, (.faddr 2), [.t 17], some (15, true)⟩,
     ⟨some 19, .load, [.t 18], some (15, true)⟩,
     ⟨some 20, (.call g_spec_l02Share), [.t 19], some (15, true)⟩,
     ⟨some 21, .pick, [.t 15, .t 20, .k (.b false)], none⟩,
     ⟨some 22, .mv, [.t 21], none⟩,
     ⟨some 23, .mv, [.t 0], some (22, true)⟩,
     ⟨some 24, .nilck, [.t 23], some (22, true)⟩,
     ⟨some 25, (.faddr 3), [.t 24], some (22, true)⟩,
     ⟨some 26, .load, [.t 25], some (22, true)⟩,
     ⟨some 27, (.call g_spec_l02Share), [.t 26], some (22, true)⟩,
     ⟨some 28, .pick, [.t 22, .t 27, .k (.b false)], none⟩,
     ⟨some 2, .mv, [.t 28], none⟩])
    .ret))

abbrev Is_spec_l04Shares (P : Program) (g_f : FuncId) (g_spec_l02Share : FuncId) : Prop := FnIs P g_f 29 [.t 2] (b_spec_l04Shares g_spec_l02Share)

abbrev C_spec_l04Shares (P : Program) (g_f : FuncId) : Prop := ∀ (a : Nat) (b : Nat) (c : Nat) (d : Nat), VCall P g_f [.bx (.par [0]) (F4 a b c d)] (.b (sharesM a b c d))
def oc1_spec_l04Shares (as : List AV) : T AV := match as with | [.bx _ [.f _ a, .f _ b, .f _ c, .f _ d]] => .leaf (.b (sharesM a b c d)) | _ => .fail
def oc_spec_l04Shares (a : Nat) (b : Nat) (c : Nat) (d : Nat) (d : Nat) (as : List AV) : T AV := match d with | 7 => oc1_spec_l02Share as | 13 => oc1_spec_l02Share as | 20 => oc1_spec_l02Share as | 27 => oc1_spec_l02Share as | _ => .fail



theorem q_spec_l04Shares {P : Program} {g_f : FuncId} {g_spec_l02Share : FuncId} (h_ : Is_spec_l04Shares P g_f g_spec_l02Share) (a : Nat) (b : Nat) (c : Nat) (d : Nat) (ht : T.ok (fun x_ => x_ = .b (sharesM a b c d)) (
      T.ob ((VCall P) g_spec_l02Share [AV.f FloatKind.f32 a] (AV.b (isShareM a)))
        (T.ite (isShareM a)
          (T.ob ((VCall P) g_spec_l02Share [AV.f FloatKind.f32 b] (AV.b (isShareM b)))
            (T.ite (isShareM b)
              (T.ob ((VCall P) g_spec_l02Share [AV.f FloatKind.f32 c] (AV.b (isShareM c)))
                (T.ite (isShareM c) (T.ob ((VCall P) g_spec_l02Share [AV.f FloatKind.f32 d] (AV.b (isShareM d))) (T.leaf (AV.b (isShareM d)))) (T.leaf (AV.b false))))
              (T.leaf (AV.b false))))
          (T.leaf (AV.b false))))) :
    VCall P g_f [.bx (.par [0]) (F4 a b c d)] (.b (sharesM a b c d)) := h_.call_of ps_spec_l04Shares ⟨oc_spec_l04Shares a b c d, fun _ _ => none⟩ (by kernel_rfl) ht


/-- laws.toShares: slots 17, results [.row 2 4]; calls []; names [(a, 0), (a, 1), (out, 3)] -/
def ps_laws_toShares : List Nat := [0, 1, 2, 3]
def b_laws_toShares : VCode :=
  (.seq
   (.region false [
    ⟨some 1, .boxN, [.t 0], none⟩,
    ⟨some 2, (.alloc [(.f .f32 0), (.f .f32 0), (.f .f32 0), (.f .f32 0)]), [], none⟩])
   (.seq
    (.region false [
     ⟨some 3, (.alloc [(.f .f32 0), (.f .f32 0), (.f .f32 0), (.f .f32 0)]), [], none⟩])
    (.seq
     (.region false [
      ⟨some 4, (.faddr 0), [.t 1], none⟩,
      ⟨some 5, .load, [.t 4], none⟩,
      ⟨some 6, (.faddr 0), [.t 3], none⟩,
      ⟨none, .store, [.t 6, .t 5], none⟩])
     (.seq
      (.region false [
       ⟨some 7, (.faddr 1), [.t 1], none⟩,
       ⟨some 8, .load, [.t 7], none⟩,
       ⟨some 9, (.faddr 1), [.t 3], none⟩,
       ⟨none, .store, [.t 9, .t 8], none⟩])
      (.seq
       (.region false [
        ⟨some 10, (.faddr 2), [.t 1], none⟩,
        ⟨some 11, .load, [.t 10], none⟩,
        ⟨some 12, (.faddr 2), [.t 3], none⟩,
        ⟨none, .store, [.t 12, .t 11], none⟩])
       (.seq
        (.region false [
         ⟨some 13, (.faddr 3), [.t 1], none⟩,
         ⟨some 14, .load, [.t 13], none⟩,
         ⟨some 15, (.faddr 3), [.t 3], none⟩,
         ⟨none, .store, [.t 15, .t 14], none⟩])
        (.seq
         (.region false [
          ⟨some 16, (.loadN 4), [.t 3], none⟩,
          ⟨none, (.storeN 4), [.t 2, .t 16], none⟩])
         .ret)))))))

abbrev Is_laws_toShares (P : Program) (g_f : FuncId) : Prop := FnIs P g_f 17 [.row 2 4] (b_laws_toShares)

abbrev C_laws_toShares (P : Program) (g_f : FuncId) : Prop := ∀ (a : Nat) (b : Nat) (c : Nat) (d : Nat), VCall P g_f [.agg (F4 a b c d)] (.agg (F4 a b c d))
def oc1_laws_toShares (as : List AV) : T AV := match as with | [.agg [.f _ a, .f _ b, .f _ c, .f _ d]] => .leaf (.agg (F4 a b c d)) | _ => .fail



theorem q_laws_toShares {P : Program} {g_f : FuncId} (h_ : Is_laws_toShares P g_f) (a : Nat) (b : Nat) (c : Nat) (d : Nat) (ht : T.ok (fun x_ => x_ = .agg (F4 a b c d)) (
      T.ob (false = false)
        (T.ob (false = false)
          (T.ob (false = false) (T.ob (false = false) (T.ob (false = false) (T.ob (false = false) (T.leaf (AV.agg [AV.f FloatKind.f32 a, AV.f FloatKind.f32 b, AV.f FloatKind.f32 c, AV.f FloatKind.f32 d]))))))))) :
    VCall P g_f [.agg (F4 a b c d)] (.agg (F4 a b c d)) := h_.call_of ps_laws_toShares ⟨fun _ _ => .fail, fun _ _ => none⟩ (by kernel_rfl) ht


/-- impl.State).guess: slots 20, results [.t 4]; calls []; names [(s, 0), (h, 1), (s, 2), (h, 3)] -/
def ps_impl_State__guess : List Nat := [0, 1, 2, 3, 4]
def b_impl_State__guess : VCode :=
  (.seq
   (.region false [
    ⟨some 2, .boxN, [.t 0], none⟩,
    ⟨some 3, .boxN, [.t 1], none⟩,
    ⟨some 4, .mv, [.k (.f .f32 0)], none⟩])
   (.seq
    (.region true [
     ⟨some 5, (.faddr 0), [.t 2], none⟩,
     ⟨some 6, .load, [.t 5], none⟩,
     ⟨some 7, (.faddr 3), [.t 3], none⟩,
     ⟨some 8, .load, [.t 7], none⟩,
     ⟨some 9, (.faddr 1), [.t 2], none⟩,
     ⟨some 10, .load, [.t 9], none⟩,
     ⟨some 11, (.bin .mul), [.t 8, .t 10], none⟩,
     ⟨some 12, (.bin .add), [.t 6, .t 11], none⟩,
     ⟨some 13, (.faddr 2), [.t 2], none⟩,
     ⟨some 14, .load, [.t 13], none⟩,
     ⟨some 15, (.faddr 3), [.t 2], none⟩,
     ⟨some 16, .load, [.t 15], none⟩,
     ⟨some 17, .iaddr, [.t 14, .t 16], none⟩,
     ⟨some 18, .load, [.t 17], none⟩,
     ⟨some 19, (.bin .add), [.t 12, .t 18], none⟩,
     ⟨some 4, .mv, [.t 19], none⟩])
    .ret))

abbrev Is_impl_State__guess (P : Program) (g_f : FuncId) : Prop := FnIs P g_f 20 [.t 4] (b_impl_State__guess)

abbrev C_impl_State__guess (P : Program) (g_f : FuncId) : Prop := ∀ (l : Nat) (s : Nat) (xs : List Nat) (t : Int) (a : Nat) (b : Nat) (c : Nat) (d : Nat) (ht : 0 ≤ t ∧ t < xs.length), VCall P g_f [.agg (ST (.par [0, 2]) l s xs t), .agg (F4 a b c d)] (.f .f32 (guessM l s xs t d))
def oc1_impl_State__guess (as : List AV) : T AV := match as with | [.agg [.f _ l, .f _ s, .sl _ _ (.f _ xs), .i _ t], .agg [.f _ a, .f _ b, .f _ c, .f _ d]] => .leaf (.f .f32 (guessM l s xs t d)) | _ => .fail



theorem q_impl_State__guess {P : Program} {g_f : FuncId} (h_ : Is_impl_State__guess P g_f) (l : Nat) (s : Nat) (xs : List Nat) (t : Int) (a : Nat) (b : Nat) (c : Nat) (d : Nat) (ht : T.ok (fun x_ => x_ = .f .f32 (guessM l s xs t d)) (
      T.ob (false = false) (T.ob (false = false) (T.ob (0 ≤ t ∧ t < (↑(List.length xs) : Int)) (T.leaf (AV.f FloatKind.f32 (fadd FloatKind.f32 (fadd FloatKind.f32 l (fmul FloatKind.f32 d s)) (List.getD xs (Int.toNat t) 0)))))))) :
    VCall P g_f [.agg (ST (.par [0, 2]) l s xs t), .agg (F4 a b c d)] (.f .f32 (guessM l s xs t d)) := h_.call_of ps_impl_State__guess ⟨fun _ _ => .fail, fun _ _ => none⟩ (by kernel_rfl) ht


/-- spec.l04Guess: slots 30, results [.t 4]; calls []; names [(s, 0), (h, 1), (s, 2), (h, 3)] -/
def ps_spec_l04Guess : List Nat := [0, 1, 4]
def b_spec_l04Guess : VCode :=
  (.seq
   (.region false [
    ⟨some 4, .mv, [.k (.f .f32 0)], none⟩])
   (.seq
    (.region true [
     ⟨some 5, .mv, [.t 0], none⟩,
     ⟨some 6, .nilck, [.t 5], none⟩,
     ⟨some 7, (.faddr 0), [.t 6], none⟩,
     ⟨some 8, .load, [.t 7], none⟩,
     ⟨some 9, .mv, [.t 1], none⟩,
     ⟨some 10, .nilck, [.t 9], none⟩,
     ⟨some 11, (.faddr 3), [.t 10], none⟩,
     ⟨some 12, .load, [.t 11], none⟩,
     ⟨some 13, .mv, [.t 0], none⟩,
     ⟨some 14, .nilck, [.t 13], none⟩,
     ⟨some 15, (.faddr 1), [.t 14], none⟩,
     ⟨some 16, .load, [.t 15], none⟩,
     ⟨some 17, (.bin .mul), [.t 12, .t 16], none⟩,
     ⟨some 18, (.bin .add), [.t 8, .t 17], none⟩,
     ⟨some 19, .mv, [.t 0], none⟩,
     ⟨some 20, .nilck, [.t 19], none⟩,
     ⟨some 21, (.faddr 2), [.t 20], none⟩,
     ⟨some 22, .load, [.t 21], none⟩,
     ⟨some 23, .mv, [.t 0], none⟩,
     ⟨some 24, .nilck, [.t 23], none⟩,
     ⟨some 25, (.faddr 3), [.t 24], none⟩,
     ⟨some 26, .load, [.t 25], none⟩,
     ⟨some 27, .iaddr, [.t 22, .t 26], none⟩,
     ⟨some 28, .load, [.t 27], none⟩,
     ⟨some 29, (.bin .add), [.t 18, .t 28], none⟩,
     ⟨some 4, .mv, [.t 29], none⟩])
    .ret))

abbrev Is_spec_l04Guess (P : Program) (g_f : FuncId) : Prop := FnIs P g_f 30 [.t 4] (b_spec_l04Guess)

abbrev C_spec_l04Guess (P : Program) (g_f : FuncId) : Prop := ∀ (l : Nat) (s : Nat) (xs : List Nat) (t : Int) (a : Nat) (b : Nat) (c : Nat) (d : Nat) (ht : 0 ≤ t ∧ t < xs.length), VCall P g_f [.bx (.par [0]) (ST (.par [0, 2]) l s xs t), .bx (.par [1]) (F4 a b c d)] (.f .f32 (guessM l s xs t d))
def oc1_spec_l04Guess (as : List AV) : T AV := match as with | [.bx _ [.f _ l, .f _ s, .sl _ _ (.f _ xs), .i _ t], .bx _ [.f _ a, .f _ b, .f _ c, .f _ d]] => .leaf (.f .f32 (guessM l s xs t d)) | _ => .fail



theorem q_spec_l04Guess {P : Program} {g_f : FuncId} (h_ : Is_spec_l04Guess P g_f) (l : Nat) (s : Nat) (xs : List Nat) (t : Int) (a : Nat) (b : Nat) (c : Nat) (d : Nat) (ht : T.ok (fun x_ => x_ = .f .f32 (guessM l s xs t d)) (
      T.ob (0 ≤ t ∧ t < (↑(List.length xs) : Int)) (T.leaf (AV.f FloatKind.f32 (fadd FloatKind.f32 (fadd FloatKind.f32 l (fmul FloatKind.f32 d s)) (List.getD xs (Int.toNat t) 0)))))) :
    VCall P g_f [.bx (.par [0]) (ST (.par [0, 2]) l s xs t), .bx (.par [1]) (F4 a b c d)] (.f .f32 (guessM l s xs t d)) := h_.call_of ps_spec_l04Guess ⟨fun _ _ => .fail, fun _ _ => none⟩ (by kernel_rfl) ht


/-- spec.l04Can: slots 11, results [.t 4]; calls [6:g_spec_l04Is, 9:g_spec_l04Shares]; names [(s, 0), (h, 1), (s, 2), (h, 3)] -/
def ps_spec_l04Can : List Nat := [0, 1, 4]
def b_spec_l04Can (g_spec_l04Is g_spec_l04Shares : FuncId) : VCode :=
  (.seq
   (.region false [
    ⟨some 4, .mv, [.k (.b false)], none⟩])
   (.seq
    (.region false [
     ⟨some 5, .mv, [.t 0], none⟩,
     ⟨some 6, (.call g_spec_l04Is), [.t 5], none⟩,
     ⟨some 7, .mv, [.t 6], none⟩,
     ⟨some 8, .mv, [.t 1], some (7, true)⟩,
     ⟨some 9, (.call g_spec_l04Shares), [.t 8], some (7, true)⟩,
     ⟨some 10, .pick, [.t 7, .t 9, .k (.b false)], none⟩,
     ⟨some 4, .mv, [.t 10], none⟩])
    .ret))

abbrev Is_spec_l04Can (P : Program) (g_f : FuncId) (g_spec_l04Is g_spec_l04Shares : FuncId) : Prop := FnIs P g_f 11 [.t 4] (b_spec_l04Can g_spec_l04Is g_spec_l04Shares)

abbrev C_spec_l04Can (P : Program) (g_f : FuncId) : Prop := ∀ (l : Nat) (s : Nat) (xs : List Nat) (t : Int) (a : Nat) (b : Nat) (c : Nat) (d : Nat) (hx : xs.length ≤ maxLen), VCall P g_f [.bx (.par [0]) (ST (.par [0, 2]) l s xs t), .bx (.par [1]) (F4 a b c d)] (.b (validStateM l s xs t && sharesM a b c d))
def oc1_spec_l04Can (as : List AV) : T AV := match as with | [.bx _ [.f _ l, .f _ s, .sl _ _ (.f _ xs), .i _ t], .bx _ [.f _ a, .f _ b, .f _ c, .f _ d]] => .leaf (.b (validStateM l s xs t && sharesM a b c d)) | _ => .fail
def oc_spec_l04Can (l : Nat) (s : Nat) (xs : List Nat) (t : Int) (a : Nat) (b : Nat) (c : Nat) (d : Nat) (d : Nat) (as : List AV) : T AV := match d with | 6 => oc1_spec_l04Is as | 9 => oc1_spec_l04Shares as | _ => .fail



theorem q_spec_l04Can {P : Program} {g_f : FuncId} {g_spec_l04Is g_spec_l04Shares : FuncId} (h_ : Is_spec_l04Can P g_f g_spec_l04Is g_spec_l04Shares) (l : Nat) (s : Nat) (xs : List Nat) (t : Int) (a : Nat) (b : Nat) (c : Nat) (d : Nat) (ht : T.ok (fun x_ => x_ = .b (validStateM l s xs t && sharesM a b c d)) (
      T.ob ((VCall P) g_spec_l04Is [AV.bx (Tag.par [0]) [AV.f FloatKind.f32 l, AV.f FloatKind.f32 s, AV.sl (Tag.par [0, 2]) 0 (Cont.f FloatKind.f32 xs), AV.i IntKind.i64 t]] (AV.b (validStateM l s xs t)))
        (T.ite (validStateM l s xs t)
          (T.ob ((VCall P) g_spec_l04Shares [AV.bx (Tag.par [0]) [AV.f FloatKind.f32 a, AV.f FloatKind.f32 b, AV.f FloatKind.f32 c, AV.f FloatKind.f32 d]] (AV.b (sharesM a b c d))) (T.leaf (AV.b (sharesM a b c d))))
          (T.leaf (AV.b false))))) :
    VCall P g_f [.bx (.par [0]) (ST (.par [0, 2]) l s xs t), .bx (.par [1]) (F4 a b c d)] (.b (validStateM l s xs t && sharesM a b c d)) := h_.call_of ps_spec_l04Can ⟨oc_spec_l04Can l s xs t a b c d, fun _ _ => none⟩ (by kernel_rfl) ht


/-- impl.GuessOf: slots 20, results [.t 4, .t 5]; calls [7:g_impl_ValidState, 11:g_impl_ValidShares, 16:g_impl_State__guess, 17:g_impl_ifFinite]; names [(s, 0), (h, 1), (s, 2), (h, 3)] -/
def ps_impl_GuessOf : List Nat := [0, 1, 2, 3, 4, 5, 13]
def b_impl_GuessOf (g_impl_ValidState g_impl_ValidShares g_impl_State__guess g_impl_ifFinite : FuncId) : VCode :=
  (.seq
   (.region false [
    ⟨some 2, .boxN, [.t 0], none⟩,
    ⟨some 3, .boxN, [.t 1], none⟩,
    ⟨some 4, .mv, [.k (.f .f32 0)], none⟩,
    ⟨some 5, .mv, [.k (.b false)], none⟩])
   (.seq
    (.seq
     (.region false [
      ⟨some 6, (.loadN 4), [.t 2], none⟩,
      ⟨some 7, (.call g_impl_ValidState), [.t 6], none⟩,
      ⟨some 8, .not, [.t 7], none⟩,
      ⟨some 9, .mv, [.t 8], none⟩,
      ⟨some 10, (.loadN 4), [.t 3], some (9, false)⟩,
      ⟨some 11, (.call g_impl_ValidShares), [.t 10], some (9, false)⟩,
      ⟨some 12, .not, [.t 11], some (9, false)⟩,
      ⟨some 13, .pick, [.t 9, .k (.b true), .t 12], none⟩])
     (.cond (.t 13)
      (.seq
       (.region false [
        ⟨some 4, .mv, [.k (.f .f32 0)], none⟩,
        ⟨some 5, .mv, [.k (.b false)], none⟩])
       .ret)
      .skip))
    (.seq
     (.region false [
      ⟨some 14, (.loadN 4), [.t 2], none⟩,
      ⟨some 15, (.loadN 4), [.t 3], none⟩,
      ⟨some 16, (.call g_impl_State__guess), [.t 14, .t 15], none⟩,
      ⟨some 17, (.call g_impl_ifFinite), [.t 16], none⟩,
      ⟨some 18, (.extract 0), [.t 17], none⟩,
      ⟨some 19, (.extract 1), [.t 17], none⟩,
      ⟨some 4, .mv, [.t 18], none⟩,
      ⟨some 5, .mv, [.t 19], none⟩])
     .ret)))

abbrev Is_impl_GuessOf (P : Program) (g_f : FuncId) (g_impl_ValidState g_impl_ValidShares g_impl_State__guess g_impl_ifFinite : FuncId) : Prop := FnIs P g_f 20 [.t 4, .t 5] (b_impl_GuessOf g_impl_ValidState g_impl_ValidShares g_impl_State__guess g_impl_ifFinite)

abbrev C_impl_GuessOf (P : Program) (g_f : FuncId) : Prop := ∀ (l : Nat) (s : Nat) (xs : List Nat) (t : Int) (a : Nat) (b : Nat) (c : Nat) (d : Nat) (hx : xs.length ≤ maxLen), VCall P g_f [.agg (ST (.par [0, 2]) l s xs t), .agg (F4 a b c d)] (.tup [.f .f32 (if guessOk l s xs t a b c d = true then guessM l s xs t d else 0), .b (guessOk l s xs t a b c d)])
def oc1_impl_GuessOf (as : List AV) : T AV := match as with | [.agg [.f _ l, .f _ s, .sl _ _ (.f _ xs), .i _ t], .agg [.f _ a, .f _ b, .f _ c, .f _ d]] => .leaf (.tup [.f .f32 (if guessOk l s xs t a b c d = true then guessM l s xs t d else 0), .b (guessOk l s xs t a b c d)]) | _ => .fail
def oc_impl_GuessOf (l : Nat) (s : Nat) (xs : List Nat) (t : Int) (a : Nat) (b : Nat) (c : Nat) (d : Nat) (d : Nat) (as : List AV) : T AV := match d with | 7 => oc1_impl_ValidState as | 11 => oc1_impl_ValidShares as | 16 => oc1_impl_State__guess as | 17 => oc1_impl_ifFinite as | _ => .fail



theorem q_impl_GuessOf {P : Program} {g_f : FuncId} {g_impl_ValidState g_impl_ValidShares g_impl_State__guess g_impl_ifFinite : FuncId} (h_ : Is_impl_GuessOf P g_f g_impl_ValidState g_impl_ValidShares g_impl_State__guess g_impl_ifFinite) (l : Nat) (s : Nat) (xs : List Nat) (t : Int) (a : Nat) (b : Nat) (c : Nat) (d : Nat) (ht : T.ok (fun x_ => x_ = .tup [.f .f32 (if guessOk l s xs t a b c d = true then guessM l s xs t d else 0), .b (guessOk l s xs t a b c d)]) (
      T.ob (false = false)
        (T.ob (false = false)
          (T.ob ((VCall P) g_impl_ValidState [AV.agg [AV.f FloatKind.f32 l, AV.f FloatKind.f32 s, AV.sl (Tag.par [0, 2]) 0 (Cont.f FloatKind.f32 xs), AV.i IntKind.i64 t]] (AV.b (validStateM l s xs t)))
            (T.ite (!validStateM l s xs t) (T.leaf (AV.tup [AV.f FloatKind.f32 0, AV.b false]))
              (T.ob ((VCall P) g_impl_ValidShares [AV.agg [AV.f FloatKind.f32 a, AV.f FloatKind.f32 b, AV.f FloatKind.f32 c, AV.f FloatKind.f32 d]] (AV.b (sharesM a b c d)))
                (T.ite (!sharesM a b c d) (T.leaf (AV.tup [AV.f FloatKind.f32 0, AV.b false]))
                  (T.ob
                    ((VCall P) g_impl_State__guess
                      [AV.agg [AV.f FloatKind.f32 l, AV.f FloatKind.f32 s, AV.sl (Tag.par [0, 2]) 0 (Cont.f FloatKind.f32 xs), AV.i IntKind.i64 t],
                        AV.agg [AV.f FloatKind.f32 a, AV.f FloatKind.f32 b, AV.f FloatKind.f32 c, AV.f FloatKind.f32 d]]
                      (AV.f FloatKind.f32 (guessM l s xs t d)))
                    (T.ob ((VCall P) g_impl_ifFinite [AV.f FloatKind.f32 (guessM l s xs t d)] (AV.tup [AV.f FloatKind.f32 (numM (guessM l s xs t d)), AV.b (finM (guessM l s xs t d))]))
                      (T.leaf (AV.tup [AV.f FloatKind.f32 (numM (guessM l s xs t d)), AV.b (finM (guessM l s xs t d))]))))))))))) :
    VCall P g_f [.agg (ST (.par [0, 2]) l s xs t), .agg (F4 a b c d)] (.tup [.f .f32 (if guessOk l s xs t a b c d = true then guessM l s xs t d else 0), .b (guessOk l s xs t a b c d)]) := h_.call_of ps_impl_GuessOf ⟨oc_impl_GuessOf l s xs t a b c d, fun _ _ => none⟩ (by kernel_rfl) ht


/-- spec.GuessOf: slots 12, results [.t 4, .t 5]; calls [6:g_spec_l04Can, 8:g_spec_l04Guess, 9:g_spec_l02Number]; names [(s, 0), (h, 1), (s, 2), (h, 3)] -/
def ps_spec_GuessOf : List Nat := [0, 1, 2, 3, 4, 5, 7]
def b_spec_GuessOf (g_spec_l04Can g_spec_l04Guess g_spec_l02Number : FuncId) : VCode :=
  (.seq
   (.region false [
    ⟨some 2, .boxN, [.t 0], none⟩,
    ⟨some 3, .boxN, [.t 1], none⟩,
    ⟨some 4, .mv, [.k (.f .f32 0)], none⟩,
    ⟨some 5, .mv, [.k (.b false)], none⟩])
   (.seq
    (.seq
     (.region false [
      ⟨some 6, (.call g_spec_l04Can), [.t 2, .t 3], none⟩,
      ⟨some 7, .not, [.t 6], none⟩])
     (.cond (.t 7)
      (.seq
       (.region false [
        ⟨some 4, .mv, [.k (.f .f32 0)], none⟩,
        ⟨some 5, .mv, [.k (.b false)], none⟩])
       .ret)
      .skip))
    (.seq
     (.region false [
      ⟨some 8, (.call g_spec_l04Guess), [.t 2, .t 3], none⟩,
      ⟨some 9, (.call g_spec_l02Number), [.t 8], none⟩,
      ⟨some 10, (.extract 0), [.t 9], none⟩,
      ⟨some 11, (.extract 1), [.t 9], none⟩,
      ⟨some 4, .mv, [.t 10], none⟩,
      ⟨some 5, .mv, [.t 11], none⟩])
     .ret)))

abbrev Is_spec_GuessOf (P : Program) (g_f : FuncId) (g_spec_l04Can g_spec_l04Guess g_spec_l02Number : FuncId) : Prop := FnIs P g_f 12 [.t 4, .t 5] (b_spec_GuessOf g_spec_l04Can g_spec_l04Guess g_spec_l02Number)

abbrev C_spec_GuessOf (P : Program) (g_f : FuncId) : Prop := ∀ (l : Nat) (s : Nat) (xs : List Nat) (t : Int) (a : Nat) (b : Nat) (c : Nat) (d : Nat) (hx : xs.length ≤ maxLen), VCall P g_f [.agg (ST (.par [0, 2]) l s xs t), .agg (F4 a b c d)] (.tup [.f .f32 (if guessOk l s xs t a b c d = true then guessM l s xs t d else 0), .b (guessOk l s xs t a b c d)])
def oc1_spec_GuessOf (as : List AV) : T AV := match as with | [.agg [.f _ l, .f _ s, .sl _ _ (.f _ xs), .i _ t], .agg [.f _ a, .f _ b, .f _ c, .f _ d]] => .leaf (.tup [.f .f32 (if guessOk l s xs t a b c d = true then guessM l s xs t d else 0), .b (guessOk l s xs t a b c d)]) | _ => .fail
def oc_spec_GuessOf (l : Nat) (s : Nat) (xs : List Nat) (t : Int) (a : Nat) (b : Nat) (c : Nat) (d : Nat) (d : Nat) (as : List AV) : T AV := match d with | 6 => oc1_spec_l04Can as | 8 => oc1_spec_l04Guess as | 9 => oc1_spec_l02Number as | _ => .fail



theorem q_spec_GuessOf {P : Program} {g_f : FuncId} {g_spec_l04Can g_spec_l04Guess g_spec_l02Number : FuncId} (h_ : Is_spec_GuessOf P g_f g_spec_l04Can g_spec_l04Guess g_spec_l02Number) (l : Nat) (s : Nat) (xs : List Nat) (t : Int) (a : Nat) (b : Nat) (c : Nat) (d : Nat) (ht : T.ok (fun x_ => x_ = .tup [.f .f32 (if guessOk l s xs t a b c d = true then guessM l s xs t d else 0), .b (guessOk l s xs t a b c d)]) (
      T.ob (false = false)
        (T.ob (false = false)
          (T.ob
            ((VCall P) g_spec_l04Can
              [AV.bx (Tag.par [0]) [AV.f FloatKind.f32 l, AV.f FloatKind.f32 s, AV.sl (Tag.par [0, 2]) 0 (Cont.f FloatKind.f32 xs), AV.i IntKind.i64 t],
                AV.bx (Tag.par [1]) [AV.f FloatKind.f32 a, AV.f FloatKind.f32 b, AV.f FloatKind.f32 c, AV.f FloatKind.f32 d]]
              (AV.b (validStateM l s xs t && sharesM a b c d)))
            (T.ite (!(validStateM l s xs t && sharesM a b c d)) (T.leaf (AV.tup [AV.f FloatKind.f32 0, AV.b false]))
              (T.ob
                ((VCall P) g_spec_l04Guess
                  [AV.bx (Tag.par [0]) [AV.f FloatKind.f32 l, AV.f FloatKind.f32 s, AV.sl (Tag.par [0, 2]) 0 (Cont.f FloatKind.f32 xs), AV.i IntKind.i64 t],
                    AV.bx (Tag.par [1]) [AV.f FloatKind.f32 a, AV.f FloatKind.f32 b, AV.f FloatKind.f32 c, AV.f FloatKind.f32 d]]
                  (AV.f FloatKind.f32 (guessM l s xs t d)))
                (T.ob ((VCall P) g_spec_l02Number [AV.f FloatKind.f32 (guessM l s xs t d)] (AV.tup [AV.f FloatKind.f32 (numM (guessM l s xs t d)), AV.b (finM (guessM l s xs t d))]))
                  (T.leaf (AV.tup [AV.f FloatKind.f32 (numM (guessM l s xs t d)), AV.b (finM (guessM l s xs t d))]))))))))) :
    VCall P g_f [.agg (ST (.par [0, 2]) l s xs t), .agg (F4 a b c d)] (.tup [.f .f32 (if guessOk l s xs t a b c d = true then guessM l s xs t d else 0), .b (guessOk l s xs t a b c d)]) := h_.call_of ps_spec_GuessOf ⟨oc_spec_GuessOf l s xs t a b c d, fun _ _ => none⟩ (by kernel_rfl) ht


theorem k_impl_ValidShares {P : Program} {f g_impl_isShare : FuncId} (h : Is_impl_ValidShares P f g_impl_isShare) (c1 : C_impl_isShare P g_impl_isShare) : C_impl_ValidShares P f := by
  intro a b c d
  refine q_impl_ValidShares h a b c d ?_
  repeat' (first | with_reducible refine T.ok_ob ?_ (fun _ => ?_) | with_reducible refine T.ok_ite (fun _ => ?_) (fun _ => ?_) | with_reducible refine T.ok_leaf ?_)
  all_goals first | with_reducible rfl | with_reducible assumption | with_reducible exact c1 _ | contradiction | exact fconvOk_32_64 _ | assumption | exact rfl | (simp_all [sharesM]; done) | (simp_all [T.ok, sharesM]; omega)

theorem k_spec_l04Shares {P : Program} {f g_spec_l02Share : FuncId} (h : Is_spec_l04Shares P f g_spec_l02Share) (c1 : C_spec_l02Share P g_spec_l02Share) : C_spec_l04Shares P f := by
  intro a b c d
  refine q_spec_l04Shares h a b c d ?_
  repeat' (first | with_reducible refine T.ok_ob ?_ (fun _ => ?_) | with_reducible refine T.ok_ite (fun _ => ?_) (fun _ => ?_) | with_reducible refine T.ok_leaf ?_)
  all_goals first | with_reducible rfl | with_reducible assumption | with_reducible exact c1 _ | contradiction | exact fconvOk_32_64 _ | assumption | exact rfl | (simp_all [sharesM]; done) | (simp_all [T.ok, sharesM]; omega)

theorem k_laws_toShares {P : Program} {f : FuncId} (h : Is_laws_toShares P f) : C_laws_toShares P f := by
  intro a b c d
  refine q_laws_toShares h a b c d ?_
  repeat' (first | with_reducible refine T.ok_ob ?_ (fun _ => ?_) | with_reducible refine T.ok_ite (fun _ => ?_) (fun _ => ?_) | with_reducible refine T.ok_leaf ?_)
  all_goals first | with_reducible rfl | with_reducible assumption | contradiction | exact fconvOk_32_64 _ | assumption | exact rfl | (simp_all []; done) | (simp_all [T.ok]; omega)

theorem k_impl_State__guess {P : Program} {f : FuncId} (h : Is_impl_State__guess P f) : C_impl_State__guess P f := by
  intro l s xs t a b c d ht
  refine q_impl_State__guess h l s xs t a b c d ?_
  repeat' (first | with_reducible refine T.ok_ob ?_ (fun _ => ?_) | with_reducible refine T.ok_ite (fun _ => ?_) (fun _ => ?_) | with_reducible refine T.ok_leaf ?_)
  all_goals first | with_reducible rfl | with_reducible assumption | contradiction | exact fconvOk_32_64 _ | assumption | exact rfl | (simp_all []; done) | (simp_all [T.ok]; omega)

theorem k_spec_l04Guess {P : Program} {f : FuncId} (h : Is_spec_l04Guess P f) : C_spec_l04Guess P f := by
  intro l s xs t a b c d ht
  refine q_spec_l04Guess h l s xs t a b c d ?_
  repeat' (first | with_reducible refine T.ok_ob ?_ (fun _ => ?_) | with_reducible refine T.ok_ite (fun _ => ?_) (fun _ => ?_) | with_reducible refine T.ok_leaf ?_)
  all_goals first | with_reducible rfl | with_reducible assumption | contradiction | exact fconvOk_32_64 _ | assumption | exact rfl | (simp_all []; done) | (simp_all [T.ok]; omega)

theorem k_spec_l04Can {P : Program} {f g_spec_l04Is g_spec_l04Shares : FuncId} (h : Is_spec_l04Can P f g_spec_l04Is g_spec_l04Shares) (c1 : C_spec_l04Is P g_spec_l04Is) (c2 : C_spec_l04Shares P g_spec_l04Shares) : C_spec_l04Can P f := by
  intro l s xs t a b c d hx
  refine q_spec_l04Can h l s xs t a b c d ?_
  repeat' (first | with_reducible refine T.ok_ob ?_ (fun _ => ?_) | with_reducible refine T.ok_ite (fun _ => ?_) (fun _ => ?_) | with_reducible refine T.ok_leaf ?_)
  all_goals first | with_reducible rfl | with_reducible assumption | ((with_reducible refine c1 _ _ _ _ ?_) <;> (first | assumption | omega | (simp [maxLen_eq]; done) | (simp [maxLen_eq]; omega))) | with_reducible exact c2 _ _ _ _ | contradiction | exact fconvOk_32_64 _ | assumption | exact rfl | (simp_all []; done) | (simp_all [T.ok]; omega)

theorem valid_at {l s : Nat} {xs : List Nat} {t : Int} (h : validStateM l s xs t = true) : 0 ≤ t ∧ t < xs.length ∧ 1 ≤ xs.length ∧ xs.length ≤ 24 := by
  simp [validStateM, inM] at h; omega
theorem k_impl_GuessOf {P : Program} {f g1 g2 g3 g4 : FuncId} (h : Is_impl_GuessOf P f g1 g2 g3 g4) (c1 : C_impl_ValidState P g1) (c2 : C_impl_ValidShares P g2) (c3 : C_impl_State__guess P g3) (c4 : C_impl_ifFinite P g4) : C_impl_GuessOf P f := by
  intro l s xs t a b c d hx
  refine q_impl_GuessOf h l s xs t a b c d ?_
  have hv := fun h => valid_at (l := l) (s := s) (xs := xs) (t := t) h
  repeat' (first | with_reducible refine T.ok_ob ?_ (fun _ => ?_) | with_reducible refine T.ok_ite (fun _ => ?_) (fun _ => ?_) | with_reducible refine T.ok_leaf ?_)
  all_goals first | with_reducible rfl | with_reducible exact c1 _ _ _ _ hx | with_reducible exact c2 _ _ _ _ | exact c3 _ _ _ _ _ _ _ _ (by simp_all) | with_reducible exact c4 _ | (simp_all [guessOk, numM]; done)
theorem k_spec_GuessOf {P : Program} {f g1 g2 g3 : FuncId} (h : Is_spec_GuessOf P f g1 g2 g3) (c1 : C_spec_l04Can P g1) (c2 : C_spec_l04Guess P g2) (c3 : C_spec_l02Number P g3) : C_spec_GuessOf P f := by
  intro l s xs t a b c d hx
  refine q_spec_GuessOf h l s xs t a b c d ?_
  have hv := fun h => valid_at (l := l) (s := s) (xs := xs) (t := t) h
  repeat' (first | with_reducible refine T.ok_ob ?_ (fun _ => ?_) | with_reducible refine T.ok_ite (fun _ => ?_) (fun _ => ?_) | with_reducible refine T.ok_leaf ?_)
  all_goals first | with_reducible rfl | with_reducible exact c1 _ _ _ _ _ _ _ _ hx | exact c2 _ _ _ _ _ _ _ _ (by simp_all) | with_reducible exact c3 _ | (rename_i hh; simp at hh; rcases hh with hh | hh <;> simp [guessOk, hh]; done) | (simp_all [guessOk, numM]; done)

end Go.Proofs.LV
