/- Sums of harmonics at a place; series that go down to both sides. -/
import Derived.Test.YtjfgmnfkkehgfaaLvFnAA
import Derived.Test.YtjfgmnfkkehgfaaLvFnDX
import Derived.Test.YtjfgmnfkkehgfaaLvFnGX
namespace Go.Proofs.LV
open Go
set_option linter.unusedVariables false
set_option linter.unusedSimpArgs false

/-- a phase -/
def wvM (g at0 : Int) (p : Nat) : Nat × Nat := phM (fdiv .f64 (fofi .f64 (g * at0)) (fconv .f32 .f64 p))
def hmL (p : Nat) (at0 : Int) : Nat → List Nat
  | 0 => [1065353216]
  | n + 1 => hmL p at0 n ++ [(wvM ((n + 1 : Nat) : Int) at0 p).1, (wvM ((n + 1 : Nat) : Int) at0 p).2]
def haV (ts : List Nat) (p : Nat) (at0 : Int) : Nat := dotM ts (hmL p at0 (ts.length / 2))
def haOk0 (ts : List Nat) (p : Nat) (at0 : Int) : Bool := decide (ts.length % 2 = 1) && (decide (ts.length ≤ 5) && (finAllM ts && ((finM p && fgt .f32 p 0) && inM at0 (-1000) 1000)))
def haOk (ts : List Nat) (p : Nat) (at0 : Int) : Bool := haOk0 ts p at0 && finM (haV ts p at0)

-- FN impl_harmonics
/-- impl.harmonics: slots 32, results [.t 6]; calls [23:g_impl_PhasorOf]; names [(period, 0), (count, 1), (at, 2), (period, 3), (count, 4), (at, 5), (out, 7), (h, 8), (x, 9)] -/
def ps_impl_harmonics : List Nat := [0, 1, 2, 6, 7, 8, 9, 13]
def lv_impl_harmonics_L0 : List Nat := [0, 1, 2, 7, 8]
def b_impl_harmonics_L0 (g_impl_PhasorOf : FuncId) : VCode :=
  (.seq
   (.seq
    (.region false [
     ⟨some 11, .mv, [.t 8], none⟩,
     ⟨some 12, .mv, [.t 1], none⟩,
     ⟨some 13, (.bin .leq), [.t 11, .t 12], none⟩])
    (.cond (.t 13)
     .skip
     (.exit 0)))
   (.seq
    (.block 1
     (.seq
      (.region false [
       ⟨some 16, .mv, [.t 8], none⟩,
       ⟨some 17, .mv, [.t 2], none⟩,
       ⟨some 18, (.bin .mul), [.t 16, .t 17], none⟩,
       ⟨some 19, (.convF .f64), [.t 18], none⟩,
       ⟨some 20, .mv, [.t 0], none⟩,
       ⟨some 21, (.convF .f64), [.t 20], none⟩,
       ⟨some 22, (.bin .quo), [.t 19, .t 21], none⟩,
       ⟨some 23, (.call g_impl_PhasorOf), [.t 22], none⟩,
       ⟨some 9, .mv, [.t 23], none⟩])
      (.region false [
       ⟨some 24, .mv, [.t 7], none⟩,
       ⟨some 25, .mv, [.t 9], none⟩,
       ⟨some 26, .re, [.t 25], none⟩,
       ⟨some 27, .mv, [.t 9], none⟩,
       ⟨some 28, .im, [.t 27], none⟩,
       ⟨some 29, (.lit true (.f .f32 [])), [.t 26, .t 28], none⟩,
       ⟨some 30, .app, [.t 24, .t 29], none⟩,
       ⟨some 7, .mv, [.t 30], none⟩])))
    (.region false [
     ⟨some 14, .mv, [.t 8], none⟩,
     ⟨some 15, (.bin .add), [.t 14, .k (.i .i64 1)], none⟩,
     ⟨some 8, .mv, [.t 15], none⟩])))

def b_impl_harmonics (g_impl_PhasorOf : FuncId) : VCode :=
  (.seq
   (.region false [
    ⟨some 6, (.nilsl (.f .f32 [])), [], none⟩])
   (.seq
    (.region false [
     ⟨some 10, (.lit true (.f .f32 [])), [.k (.f .f32 1065353216)], none⟩,
     ⟨some 7, .mv, [.t 10], none⟩])
    (.seq
     (.seq
      (.region false [
       ⟨some 8, .mv, [.k (.i .i64 1)], none⟩])
      (.block 0 (.loop (b_impl_harmonics_L0 g_impl_PhasorOf))))
     (.seq
      (.region false [
       ⟨some 31, .mv, [.t 7], none⟩,
       ⟨some 6, .mv, [.t 31], none⟩])
      .ret))))

abbrev Is_impl_harmonics (P : Program) (g_f : FuncId) (g_impl_PhasorOf : FuncId) : Prop := FnIs P g_f 32 [.t 6] (b_impl_harmonics g_impl_PhasorOf)

abbrev C_impl_harmonics (P : Program) (g_f : FuncId) : Prop := ∀ (p : Nat) (n : Int) (at0 : Int) (hn : 0 ≤ n ∧ n ≤ 4) (ha : -1000 ≤ at0 ∧ at0 ≤ 1000), VCall P g_f [.f .f32 p, .i .i64 n, .i .i64 at0] (OS 0 .f32 (hmL p at0 n.toNat))
def oc1_impl_harmonics (as : List AV) : T AV := match as with | [.f .f32 p, .i .i64 n, .i .i64 at0] => .leaf (OS 0 .f32 (hmL p at0 n.toNat)) | _ => .fail
def oc_impl_harmonics (p : Nat) (n : Int) (at0 : Int) (d : Nat) (as : List AV) : T AV := match d with | 23 => oc1_impl_PhasorOf as | _ => .fail
def h_impl_harmonics_L0 (p : Nat) (n : Int) (at0 : Int) (out : List Nat) (h : Int) : Env := [AV.f FloatKind.f32 p, AV.i IntKind.i64 n, AV.i IntKind.i64 at0] ++ anys 4 ++ [.sl (Tag.own 80) 0 (.f FloatKind.f32 out), .i IntKind.i64 h] ++ anys 23

theorem q_impl_harmonics_L0 {VC : FuncId → List AV → AV → Prop} {g_impl_PhasorOf : FuncId} (p : Nat) (n : Int) (at0 : Int) (out : List Nat) (h : Int) {e_ : Ex} {σ_ : Env} (ht : T.ok (fun x_ => x_ = (e_, σ_)) (
      T.ite (decide (h ≤ n))
        (T.ob True
          (T.ob (fconvOk FloatKind.f32 FloatKind.f64 p = true)
            (T.ob True
              (T.ob
                (VC g_impl_PhasorOf [AV.f FloatKind.f64 (fdiv FloatKind.f64 (fofi FloatKind.f64 (IntKind.wrap IntKind.i64 (h * at0))) (fconv FloatKind.f32 FloatKind.f64 p))]
                  (AV.c FloatKind.f32 (Prod.fst (phM (fdiv FloatKind.f64 (fofi FloatKind.f64 (IntKind.wrap IntKind.i64 (h * at0))) (fconv FloatKind.f32 FloatKind.f64 p))))
                    (Prod.snd (phM (fdiv FloatKind.f64 (fofi FloatKind.f64 (IntKind.wrap IntKind.i64 (h * at0))) (fconv FloatKind.f32 FloatKind.f64 p))))))
                (T.ob
                  (List.length out +
                      List.length
                        [Prod.fst (phM (fdiv FloatKind.f64 (fofi FloatKind.f64 (IntKind.wrap IntKind.i64 (h * at0))) (fconv FloatKind.f32 FloatKind.f64 p))),
                          Prod.snd (phM (fdiv FloatKind.f64 (fofi FloatKind.f64 (IntKind.wrap IntKind.i64 (h * at0))) (fconv FloatKind.f32 FloatKind.f64 p)))] ≤
                    4294967296)
                  (T.leaf
                    (Ex.normal,
                      h_impl_harmonics_L0 p n at0
                        (out ++
                          [Prod.fst (phM (fdiv FloatKind.f64 (fofi FloatKind.f64 (IntKind.wrap IntKind.i64 (h * at0))) (fconv FloatKind.f32 FloatKind.f64 p))),
                            Prod.snd (phM (fdiv FloatKind.f64 (fofi FloatKind.f64 (IntKind.wrap IntKind.i64 (h * at0))) (fconv FloatKind.f32 FloatKind.f64 p)))])
                        (IntKind.wrap IntKind.i64 (h + 1)))))))))
        (T.leaf (Ex.exit 0, h_impl_harmonics_L0 p n at0 out h)))) :
    Exec VC ps_impl_harmonics (b_impl_harmonics_L0 g_impl_PhasorOf) (h_impl_harmonics_L0 p n at0 out h) e_ σ_ := evL_of (lv := lv_impl_harmonics_L0) (rs := [6]) (O := ⟨oc_impl_harmonics p n at0, fun _ _ => none⟩) (by kernel_rfl) ht

theorem q_impl_harmonics {P : Program} {g_f : FuncId} {g_impl_PhasorOf : FuncId} (h_ : Is_impl_harmonics P g_f g_impl_PhasorOf) (p : Nat) (n : Int) (at0 : Int) (ht : T.ok (fun x_ => x_ = OS 0 .f32 (hmL p at0 n.toNat)) (
      T.ob (Exec (VCall P) ps_impl_harmonics (VCode.block 0 (VCode.loop (b_impl_harmonics_L0 g_impl_PhasorOf))) (h_impl_harmonics_L0 p n at0 [1065353216] 1) Ex.normal (h_impl_harmonics_L0 p n at0 (hmL p at0 (Int.toNat n)) (n + 1)))
        (T.leaf (AV.sl (Tag.own 0) 0 (Cont.f FloatKind.f32 (hmL p at0 (Int.toNat n))))))) :
    VCall P g_f [.f .f32 p, .i .i64 n, .i .i64 at0] (OS 0 .f32 (hmL p at0 n.toNat)) := h_.call_of ps_impl_harmonics ⟨oc_impl_harmonics p n at0, fun id σ => match id with | 0 => some (lv_impl_harmonics_L0, .leaf (.normal, h_impl_harmonics_L0 p n at0 (hmL p at0 n.toNat) (n + 1))) | _ => none⟩ (by kernel_rfl) ht

-- END impl_harmonics
-- FN spec_l03Wave
/-- spec.l03Wave: slots 15, results [.t 6]; calls [14:g_spec_l01Phasor]; names [(h, 0), (place, 1), (period, 2), (h, 3), (place, 4), (period, 5)] -/
def ps_spec_l03Wave : List Nat := [0, 1, 2, 6]
def b_spec_l03Wave (g_spec_l01Phasor : FuncId) : VCode :=
  (.seq
   (.region false [
    ⟨some 6, .mv, [.k (.c .f32 0 0)], none⟩])
   (.seq
    (.region false [
     ⟨some 7, .mv, [.t 0], none⟩,
     ⟨some 8, .mv, [.t 1], none⟩,
     ⟨some 9, (.bin .mul), [.t 7, .t 8], none⟩,
     ⟨some 10, (.convF .f64), [.t 9], none⟩,
     ⟨some 11, .mv, [.t 2], none⟩,
     ⟨some 12, (.convF .f64), [.t 11], none⟩,
     ⟨some 13, (.bin .quo), [.t 10, .t 12], none⟩,
     ⟨some 14, (.call g_spec_l01Phasor), [.t 13], none⟩,
     ⟨some 6, .mv, [.t 14], none⟩])
    .ret))

abbrev Is_spec_l03Wave (P : Program) (g_f : FuncId) (g_spec_l01Phasor : FuncId) : Prop := FnIs P g_f 15 [.t 6] (b_spec_l03Wave g_spec_l01Phasor)

abbrev C_spec_l03Wave (P : Program) (g_f : FuncId) : Prop := ∀ (g : Int) (at0 : Int) (p : Nat) (ha : -1000 ≤ at0 ∧ at0 ≤ 1000) (hb : 0 ≤ g ∧ g ≤ 100), VCall P g_f [.i .i64 g, .i .i64 at0, .f .f32 p] (.c .f32 (wvM g at0 p).1 (wvM g at0 p).2)
def oc1_spec_l03Wave (as : List AV) : T AV := match as with | [.i .i64 g, .i .i64 at0, .f .f32 p] => .leaf (.c .f32 (wvM g at0 p).1 (wvM g at0 p).2) | _ => .fail
def oc_spec_l03Wave (g : Int) (at0 : Int) (p : Nat) (d : Nat) (as : List AV) : T AV := match d with | 14 => oc1_spec_l01Phasor as | _ => .fail



theorem q_spec_l03Wave {P : Program} {g_f : FuncId} {g_spec_l01Phasor : FuncId} (h_ : Is_spec_l03Wave P g_f g_spec_l01Phasor) (g : Int) (at0 : Int) (p : Nat) (ht : T.ok (fun x_ => x_ = .c .f32 (wvM g at0 p).1 (wvM g at0 p).2) (
      T.ob True
        (T.ob (fconvOk FloatKind.f32 FloatKind.f64 p = true)
          (T.ob True
            (T.ob
              ((VCall P) g_spec_l01Phasor [AV.f FloatKind.f64 (fdiv FloatKind.f64 (fofi FloatKind.f64 (IntKind.wrap IntKind.i64 (g * at0))) (fconv FloatKind.f32 FloatKind.f64 p))]
                (AV.c FloatKind.f32 (Prod.fst (phM (fdiv FloatKind.f64 (fofi FloatKind.f64 (IntKind.wrap IntKind.i64 (g * at0))) (fconv FloatKind.f32 FloatKind.f64 p))))
                  (Prod.snd (phM (fdiv FloatKind.f64 (fofi FloatKind.f64 (IntKind.wrap IntKind.i64 (g * at0))) (fconv FloatKind.f32 FloatKind.f64 p))))))
              (T.leaf
                (AV.c FloatKind.f32 (Prod.fst (phM (fdiv FloatKind.f64 (fofi FloatKind.f64 (IntKind.wrap IntKind.i64 (g * at0))) (fconv FloatKind.f32 FloatKind.f64 p))))
                  (Prod.snd (phM (fdiv FloatKind.f64 (fofi FloatKind.f64 (IntKind.wrap IntKind.i64 (g * at0))) (fconv FloatKind.f32 FloatKind.f64 p))))))))))) :
    VCall P g_f [.i .i64 g, .i .i64 at0, .f .f32 p] (.c .f32 (wvM g at0 p).1 (wvM g at0 p).2) := h_.call_of ps_spec_l03Wave ⟨oc_spec_l03Wave g at0 p, fun _ _ => none⟩ (by kernel_rfl) ht

-- END spec_l03Wave

def tpT (n i : Nat) : Nat := fdiv .f32 (fadd .f32 (fofi .f32 i) 1056964608) (fofi .f32 n)
def tpW (kind : Int) (n i : Nat) : Nat :=
  if kind = 1 then fsub .f32 1056964608 (fmul .f32 1056964608 (phM (fconv .f32 .f64 (tpT n i))).1)
  else if kind = 2 then fsub .f32 1065353216 (absF (fsub .f32 (fmul .f32 1073741824 (tpT n i)) 1065353216)) else 1065353216
def tpM (a : List Nat) (kind : Int) (n : Nat) : List Nat := tab n fun i => fmul .f32 (a.getD i 0) (tpW kind a.length i)
def tpOk (a : List Nat) (kind : Int) : Bool := (seriesM a && inM kind 0 2) && finAllM (tpM a kind a.length)


/-! ### tapers -/
/-- less an absolute value: both ways -/
theorem less_size {x : Nat} (h : Fw .f32 x) : fsub .f32 1065353216 (absF x) = fsub .f32 1065353216 (sizF x) := by
  by_cases hn : nanB .f32 x = true
  · have hx : x = fnan .f32 := by have := nanB_eq h; rw [hn] at this; exact beq_iff_eq.1 this.symm
    rw [hx]; decide +kernel
  have hn : nanB .f32 x = false := by simpa using hn
  obtain ⟨n1, n2⟩ := neg_srung hn
  have ho := order_rung hn n2
  rw [n1] at ho
  have hl := flt_eq .f32 x 0
  rw [hn, show nanB .f32 0 = false by decide, show srung .f32 0 = 0 by decide] at hl
  simp only [Bool.not_false, Bool.true_and] at hl
  have ec : ∀ a b : Int, compare a b = if a < b then .lt else if a = b then .eq else .gt := fun a b => rfl
  rw [ec] at ho
  rcases Int.lt_trichotomy (srung .f32 x) 0 with hz | hz | hz
  · rw [if_pos (by omega)] at ho
    have e1 : absF x = fneg .f32 x := by unfold absF fmax; rw [ho]
    have e2 : sizF x = fneg .f32 x := by unfold sizF; rw [hl, if_pos (by simpa using hz)]
    rw [e1, e2]
  · have hx : x = 0 ∨ x = 2147483648 := by
      have hw := h.lt
      have h5 : ∀ y, y < 2 ^ 32 → srung .f32 y = 0 → y = 0 ∨ y = 2147483648 := by
        intro y hy h0
        have hS : Ieee.single.signWeight = 2147483648 := by decide
        have h0 : sg (sign Ieee.single y) (rung Ieee.single y) = 0 := h0
        have h6 := sg_abs (sign Ieee.single y) (rung Ieee.single y)
        rw [h0] at h6
        have h6 : 0 = y % Ieee.single.signWeight := h6
        rw [hS] at h6
        omega
      exact h5 x hw hz
    rcases hx with rfl | rfl <;> decide +kernel
  · rw [if_neg (by omega), if_neg (by omega)] at ho
    have e1 : absF x = x := by unfold absF fmax; rw [ho]
    have e2 : sizF x = x := by unfold sizF; rw [hl, if_neg (by simp; omega)]
    rw [e1, e2]
theorem tp_1 {kind : Int} (h : kind = 1) (n i : Nat) : tpW kind n i = fsub .f32 1056964608 (fmul .f32 1056964608 (phM (fconv .f32 .f64 (tpT n i))).1) := by unfold tpW; rw [if_pos h]
theorem tp_2 {kind : Int} (h : kind = 2) (n i : Nat) : tpW kind n i = fsub .f32 1065353216 (absF (fsub .f32 (fmul .f32 1073741824 (tpT n i)) 1065353216)) := by unfold tpW; rw [if_neg (by omega), if_pos h]
theorem tp_3 {kind : Int} (h1 : kind ≠ 1) (h2 : kind ≠ 2) (n i : Nat) : tpW kind n i = 1065353216 := by unfold tpW; rw [if_neg h1, if_neg h2]
theorem tp_len (a : List Nat) (kind : Int) (n : Nat) : (tpM a kind n).length = n := tab_len _ _
theorem tp_succ (a : List Nat) (kind : Int) (n : Nat) : tpM a kind (n + 1) = tpM a kind n ++ [fmul .f32 (a.getD n 0) (tpW kind a.length n)] := tab_succ _ _
theorem read_place {x m : Nat} {s : Bool} {e : Int} (h : rung Ieee.single x < Ieee.single.infRung) (hr : Ieee.single.read x = .number s m e) : (e - Ieee.single.leastPlace).toNat ≤ 253 ∧ Ieee.single.leastPlace ≤ e := by
  unfold Ieee.Format.read at hr
  unfold rung at h
  simp only at hr
  have hB : Ieee.single.binade = 2 ^ 23 := by decide
  have hI : Ieee.single.infRung = 255 * 2 ^ 23 := by decide
  split at hr
  · cases hr; omega
  · cases hr
    have h2 : x % Ieee.single.signWeight / Ieee.single.binade < 255 := Nat.div_lt_of_lt_mul (by rw [hB, Nat.mul_comm]; omega)
    omega
theorem word_self {x : Nat} (h : x < 2 ^ 32) : Ieee.single.word (sign Ieee.single x) (rung Ieee.single x) = x := by
  have hS : Ieee.single.signWeight = 2 ^ 31 := by decide
  unfold Ieee.Format.word sign rung
  rw [hS]
  have h1 : x / 2 ^ 31 < 2 := by omega
  rcases (show x / 2 ^ 31 = 0 ∨ x / 2 ^ 31 = 1 by omega) with h2 | h2
  · rw [h2]; simp; omega
  · rw [h2]; simp; omega
theorem read_one : Ieee.single.read 1065353216 = .number false (2 ^ 23) (-23) := by decide +kernel
theorem mul_near {x y m n : Nat} {s t : Bool} {i j : Int} (e : Ieee.single.read x = .number s m i) (e2 : Ieee.single.read y = .number t n j) : fmul .f32 x y = Ieee.single.nearest (s ^^ t) (m * n) (i + j) := by
  unfold fmul Ieee.Format.mul
  simp only [FloatKind.format]
  rw [e, e2]
  rfl
/-- times one -/
theorem mul_one' {x : Nat} (hw : x < 2 ^ 32) (hf : finM x = true) : fmul .f32 x 1065353216 = x := by
  rw [finM_iff] at hf
  have hf := of_decide_eq_true hf
  obtain ⟨m, p, e, hu⟩ := read_num (f := Ieee.single) hf
  obtain ⟨h1, _⟩ := read_place hf e
  have hm := (read32_bounds e).1
  have ep := mul_near e read_one
  rw [ep, Bool.xor_false]
  have es := nearest_shift Ieee.single (sign Ieee.single x) m (Ieee.single.leastPlace + (p : Nat)) 23
  rw [show Ieee.single.leastPlace + (p : Int) + -23 = Ieee.single.leastPlace + (p : Int) - ((23 : Nat) : Int) by omega, es]
  have hB : Ieee.single.binade = 2 ^ 23 := by decide
  have hI : Ieee.single.infRung = 255 * 2 ^ 23 := by decide
  have hB0 := binade_pos Ieee.single
  have fin : ∀ r, Ieee.single.nearest (sign Ieee.single x) m (Ieee.single.leastPlace + (p : Nat)) = Ieee.single.word (sign Ieee.single x) r → units Ieee.single.binade r = units Ieee.single.binade (rung Ieee.single x) → Ieee.single.nearest (sign Ieee.single x) m (Ieee.single.leastPlace + (p : Nat)) = x := by
    intro r h2 h3
    rw [h2, units_inj hB0 h3]; exact word_self hw
  by_cases h0 : m = 0
  · subst h0
    refine fin 0 (by unfold Ieee.Format.nearest; rw [if_pos rfl]) ?_
    rw [← hu, units_zero hB0, Nat.zero_mul]
  · rw [show (Ieee.single.leastPlace + (p : Int) - Ieee.single.leastPlace).toNat = p by omega] at h1
    obtain ⟨r, h2, _, h3⟩ := nearest_exact Ieee.single (sign Ieee.single x) m (Ieee.single.leastPlace + (p : Nat)) h0 (by rw [hB]; omega) (by omega) (by rw [show (Ieee.single.leastPlace + (p : Int) - Ieee.single.leastPlace).toNat = p by omega, hB, hI]; omega)
    rw [show (Ieee.single.leastPlace + (p : Int) - Ieee.single.leastPlace).toNat = p by omega, hu] at h3
    exact fin r h2 h3

theorem hm_len (p : Nat) (at0 : Int) : ∀ n, (hmL p at0 n).length = 2 * n + 1
  | 0 => rfl
  | n + 1 => by show (hmL p at0 n ++ [_, _]).length = _; rw [List.length_append, hm_len p at0 n]; simp; omega
theorem mul_in {g at0 : Int} (h1 : 0 ≤ g) (h2 : g ≤ 100) (h3 : -1000 ≤ at0) (h4 : at0 ≤ 1000) : -100000 ≤ g * at0 ∧ g * at0 ≤ 100000 := by
  have a := Int.mul_le_mul_of_nonneg_left h4 h1
  have b := Int.mul_le_mul_of_nonneg_left h3 h1
  omega
theorem k_impl_harmonics {P : Program} {f g1 : FuncId} (h : Is_impl_harmonics P f g1) (c1 : C_impl_PhasorOf P g1) : C_impl_harmonics P f := by
  intro p n at0 hn ha
  refine q_impl_harmonics h p n at0 ?_
  repeat' (first | with_reducible refine T.ok_ob ?_ (fun _ => ?_) | with_reducible refine T.ok_ite (fun _ => ?_) (fun _ => ?_) | with_reducible refine T.ok_leaf ?_)
  all_goals first | rfl | skip
  obtain ⟨m, rfl⟩ : ∃ m : Nat, n = m := ⟨n.toNat, by omega⟩
  rw [Int.toNat_natCast]
  refine for_up (e := .exit 0) m (fun i => h_impl_harmonics_L0 p m at0 (hmL p at0 i) ((i + 1 : Nat) : Int)) rfl (fun i hi => ?_) ?_
  · refine q_impl_harmonics_L0 _ _ _ _ _ ?_
    have hm := mul_in (g := ((i + 1 : Nat) : Int)) (at0 := at0) (by omega) (by omega) ha.1 ha.2
    have hl := hm_len p at0 i
    have d1 := c1 (fdiv .f64 (fofi .f64 (((i + 1 : Nat) : Int) * at0)) (fconv .f32 .f64 p))
    rw [wrap64_id (n := ((i + 1 : Nat) : Int) * at0) (by omega) (by omega)]
    rw [show phM (fdiv .f64 (fofi .f64 (((i + 1 : Nat) : Int) * at0)) (fconv .f32 .f64 p)) = wvM ((i + 1 : Nat) : Int) at0 p from rfl] at *
    repeat' (first | with_reducible refine T.ok_ob ?_ (fun _ => ?_) | with_reducible refine T.ok_ite (fun _ => ?_) (fun _ => ?_) | with_reducible refine T.ok_leaf ?_)
    all_goals (try simp only [decide_eq_true_eq, decide_eq_false_iff_not, Bool.not_eq_true', Bool.not_eq_false', Bool.not_eq_eq_eq_not, Bool.not_true, Bool.not_false, Int.toNat_natCast, tab_len, List.length_append, List.length_singleton, List.length_cons, List.length_nil, List.length_drop, List.length_take, getD_drop', getD_nat, reduceCtorEq] at *)
    all_goals (try simp (disch := omega) only [wrap64_id] at *)
    all_goals first | omega | (exfalso; omega) | exact True.intro | skip
    all_goals first | exact fconvOk_32_64 _ | exact d1 | rfl
  · refine q_impl_harmonics_L0 _ _ _ _ _ ?_
    repeat' (first | with_reducible refine T.ok_ob ?_ (fun _ => ?_) | with_reducible refine T.ok_ite (fun _ => ?_) (fun _ => ?_) | with_reducible refine T.ok_leaf ?_)
    all_goals (try simp only [decide_eq_true_eq, decide_eq_false_iff_not, Bool.not_eq_true', Bool.not_eq_false', Bool.not_eq_eq_eq_not, Bool.not_true, Bool.not_false, Int.toNat_natCast, tab_len, List.length_append, List.length_singleton, List.length_cons, List.length_nil, List.length_drop, List.length_take, getD_drop', getD_nat, reduceCtorEq] at *)
    all_goals (try simp (disch := omega) only [wrap64_id] at *)
    all_goals first | omega | (exfalso; omega) | exact True.intro | skip
    all_goals first | rfl | (simp; done)
theorem k_spec_l03Wave {P : Program} {f g1 : FuncId} (h : Is_spec_l03Wave P f g1) (c1 : C_spec_l01Phasor P g1) : C_spec_l03Wave P f := by
  intro g at0 p ha hb
  refine q_spec_l03Wave h g at0 p ?_
  have hm := mul_in hb.1 hb.2 ha.1 ha.2
  rw [wrap64_id (n := g * at0) (by omega) (by omega)]
  have d1 := c1 (fdiv .f64 (fofi .f64 (g * at0)) (fconv .f32 .f64 p))
  repeat' (first | with_reducible refine T.ok_ob ?_ (fun _ => ?_) | with_reducible refine T.ok_ite (fun _ => ?_) (fun _ => ?_) | with_reducible refine T.ok_leaf ?_)
  all_goals first | exact fconvOk_32_64 _ | exact d1 | rfl | trivial
theorem tmod_zero (n : Nat) : (Int.tmod (n : Int) 2 == 0) = !(decide (n % 2 = 1)) := by
  rw [Int.tmod_eq_emod_of_nonneg (by omega)]
  by_cases h : n % 2 = 1
  · rw [decide_eq_true h, show ((n : Int) % 2) = 1 by omega]; rfl
  · rw [decide_eq_false h, show ((n : Int) % 2) = 0 by omega]; rfl
def haP (ts : List Nat) (p : Nat) (at0 : Int) : Nat → Nat
  | 0 => fadd .f32 0 (ts.getD 0 0)
  | n + 1 => fadd .f32 (fadd .f32 (haP ts p at0 n) (fmul .f32 (wvM ((n + 1 : Nat) : Int) at0 p).1 (ts.getD (2 * (n + 1) - 1) 0))) (fmul .f32 (wvM ((n + 1 : Nat) : Int) at0 p).2 (ts.getD (2 * (n + 1)) 0))
theorem getD_l {xs ys : List Nat} {i : Nat} (h : i < xs.length) : (xs ++ ys).getD i 0 = xs.getD i 0 := by
  rw [List.getD_eq_getElem?_getD, List.getD_eq_getElem?_getD, List.getElem?_append_left h]
theorem getD_r {xs ys : List Nat} {i : Nat} (h : xs.length ≤ i) : (xs ++ ys).getD i 0 = ys.getD (i - xs.length) 0 := by
  rw [List.getD_eq_getElem?_getD, List.getD_eq_getElem?_getD, List.getElem?_append_right h]
theorem hm_get (p : Nat) (at0 : Int) : ∀ (n k : Nat), k < n → (hmL p at0 n).getD (2 * k + 1) 0 = (wvM ((k + 1 : Nat) : Int) at0 p).1 ∧ (hmL p at0 n).getD (2 * k + 2) 0 = (wvM ((k + 1 : Nat) : Int) at0 p).2
  | n + 1, k, h => by
    have hl := hm_len p at0 n
    have e : hmL p at0 (n + 1) = hmL p at0 n ++ [(wvM ((n + 1 : Nat) : Int) at0 p).1, (wvM ((n + 1 : Nat) : Int) at0 p).2] := rfl
    rw [e]
    by_cases hk : k < n
    · rw [getD_l (by omega), getD_l (by omega)]
      exact hm_get p at0 n k hk
    · have hk : k = n := by omega
      subst hk
      rw [getD_r (by omega), getD_r (by omega), hl, show 2 * k + 1 - (2 * k + 1) = 0 by omega, show 2 * k + 2 - (2 * k + 1) = 1 by omega]
      exact ⟨rfl, rfl⟩
theorem ha_sum {ts : List Nat} {p : Nat} {at0 : Int} (h0 : fmul .f32 (ts.getD 0 0) 1065353216 = ts.getD 0 0) (m : Nat) : ∀ n, n ≤ m → accN (fun i s => fadd .f32 s (fmul .f32 (ts.getD i 0) ((hmL p at0 m).getD i 0))) (2 * n + 1) 0 = haP ts p at0 n
  | 0, _ => by
    have e : (hmL p at0 m).getD 0 0 = 1065353216 := by
      induction m with
      | zero => rfl
      | succ m ih => show (hmL p at0 m ++ _).getD 0 0 = _; rw [getD_l (by rw [hm_len]; omega)]; exact ih (by omega)
    show fadd .f32 0 (fmul .f32 (ts.getD 0 0) ((hmL p at0 m).getD 0 0)) = _
    rw [e, h0]; rfl
  | n + 1, hn => by
    obtain ⟨g1, g2⟩ := hm_get p at0 m n (by omega)
    have ih := ha_sum (p := p) (at0 := at0) h0 m n (by omega)
    rw [show 2 * (n + 1) + 1 = 2 * n + 1 + 1 + 1 by omega]
    generalize hF : (fun i s => fadd .f32 s (fmul .f32 (ts.getD i 0) ((hmL p at0 m).getD i 0))) = F at ih ⊢
    have e : accN F (2 * n + 1 + 1 + 1) 0 = F (2 * n + 1 + 1) (F (2 * n + 1) (accN F (2 * n + 1) 0)) := rfl
    rw [e, ih, ← hF]
    simp only
    rw [g1, show 2 * n + 1 + 1 = 2 * n + 2 by omega, g2, fmul_comm .f32 (ts.getD (2 * n + 1) 0), fmul_comm .f32 (ts.getD (2 * n + 2) 0)]
    rfl

end Go.Proofs.LV
