/- Texts that belong together. -/
import Derived.Test.YtjfgmnfkkehgfaaLvFnDX
import Derived.Test.YtjfgmnfkkehgfaaLvFnHH
import Derived.Test.YtjfgmnfkkehgfaaLvFnMM
import Derived.Test.YtjfgmnfkkehgfaaLvFnNN
namespace Go.Proofs.LV
open Go
set_option linter.unusedVariables false
set_option linter.unusedSimpArgs false

theorem sz_lt (n : Nat) (i : Int) : (szM n i < 0) = (i < n) := by
  unfold szM; split
  · rename_i h; simp [h]
  · rename_i h; simp; omega
theorem sz_val (n : Nat) (i : Int) (h : (n : Int) ≤ i) : szM n i = i - n := by
  unfold szM; rw [if_neg (by omega)]





end Go.Proofs.LV

namespace Go.Proofs.LV
open Go
set_option linter.unusedVariables false
set_option linter.unusedSimpArgs false

theorem szSS_lt (xss : LL) (i : Int) : szSS xss i < 0 ↔ i < xss.length + totN xss xss.length ∨ i < 0 := by
  unfold szSS; split <;> omega
theorem szSS_val {xss : LL} {i : Int} (h : ¬ (i < xss.length + totN xss xss.length)) : szSS xss i = i - (xss.length + totN xss xss.length) := by
  unfold szSS; rw [if_neg h]
theorem rows_le {xss : LL} {n : Nat} (h : totN xss xss.length ≤ n) : ∀ r ∈ xss, r.length ≤ n := by
  intro r hr
  obtain ⟨i, hi, rfl⟩ := List.getElem_of_mem hr
  have := row_tot xss i hi
  simp [List.getD, hi] at this
  omega


theorem fit_out_len (xss : LL) (ts : List Nat) : (if fitOk xss ts = true then ifAllM (fitM xss ts) else []).length ≤ 96 := by
  split
  · rename_i h
    unfold fitOk at h
    simp only [Bool.and_eq_true] at h
    have := (cols_facts h.1).2.2
    unfold ifAllM
    split
    · rw [fit_len]; exact this
    · simp
  · simp
end Go.Proofs.LV

namespace Go.Proofs.LV
open Go
set_option linter.unusedVariables false
set_option linter.unusedSimpArgs false


theorem ft_out_len (xss : LL) (y : List Nat) : (ftOut xss y).length ≤ 96 := by
  unfold ftOut
  split
  · rename_i h
    have := ftOk_facts h
    omega
  · simp
theorem ro_out_len (xss : LL) (y : List Nat) : (if roOk xss y = true then roR xss y else []).length ≤ 96 := by
  split
  · rename_i h
    unfold roOk at h
    simp only [Bool.and_eq_true] at h
    have := ftOk_facts h.1
    rw [roR_len]; omega
  · simp
end Go.Proofs.LV

namespace Go.Proofs.LV
open Go
set_option linter.unusedVariables false
set_option linter.unusedSimpArgs false

-- FN laws_FnExactHarmonicFit
/-- laws.FnExactHarmonicFit: slots 103, results [.t 6]; calls [22:g_laws_toFloat32S, 25:g_spec_HarmonicFit, 29:g_laws_toFloat32S, 34:g_impl_HarmonicFit, 39:g_laws_eqFloat32S, 48:g_laws_toFloat32S, 49:g_laws_eqFloat32S, 53:g_laws_markFloat32S, 59:g_laws_eqFloat32S, 69:g_laws_markFloat32S, 72:g_laws_heldFloat32S, 80:g_laws_toFloat32S, 83:g_impl_HarmonicFit, 88:g_laws_eqFloat32S, 97:g_laws_heldFloat32S]; names [(aA, 0), (aPeriod, 1), (aCount, 2), (aA, 3), (aPeriod, 4), (aCount, 5), (w0, 7), (w1, 8), (x0, 9), (g0, 10), (g1, 11), (k, 12), (m, 13), (q, 14), (h0, 15), (h1, 16)] -/
def ps_laws_FnExactHarmonicFit : List Nat := [0, 1, 2, 6, 7, 8, 9, 10, 11, 12, 13, 14, 15, 16, 19, 45, 50, 66, 74, 77, 94, 99, 102]
def b_laws_FnExactHarmonicFit (g_laws_toFloat32S g_spec_HarmonicFit g_impl_HarmonicFit g_laws_eqFloat32S g_laws_markFloat32S g_laws_heldFloat32S : FuncId) : VCode :=
  (.seq
   (.region false [
    ⟨some 6, .mv, [.k (.b false)], none⟩])
   (.seq
    (.seq
     (.region false [
      ⟨some 17, .mv, [.t 0], none⟩,
      ⟨some 18, .len, [.t 17], none⟩,
      ⟨some 19, (.bin .gtr), [.t 18, .k (.i .i64 1048576)], none⟩])
     (.cond (.t 19)
      (.seq
       (.region false [
        ⟨some 6, .mv, [.k (.b true)], none⟩])
       .ret)
      .skip))
    (.seq
     (.region false [
      ⟨some 21, .mv, [.t 0], none⟩,
      ⟨some 22, (.call g_laws_toFloat32S), [.t 21], none⟩,
      ⟨some 23, .mv, [.t 1], none⟩,
      ⟨some 24, .mv, [.t 2], none⟩,
      ⟨some 25, (.call g_spec_HarmonicFit), [.t 22, .t 23, .t 24], none⟩,
      ⟨some 20, .mv, [.t 25], none⟩,
      ⟨some 26, (.extract 0), [.t 20], none⟩,
      ⟨some 27, (.extract 1), [.t 20], none⟩,
      ⟨some 7, .mv, [.t 26], none⟩,
      ⟨some 8, .mv, [.t 27], none⟩])
     (.seq
      (.region false [
       ⟨some 28, .mv, [.t 0], none⟩,
       ⟨some 29, (.call g_laws_toFloat32S), [.t 28], none⟩,
       ⟨some 9, .mv, [.t 29], none⟩])
      (.seq
       (.region false [
        ⟨some 31, .mv, [.t 9], none⟩,
        ⟨some 32, .mv, [.t 1], none⟩,
        ⟨some 33, .mv, [.t 2], none⟩,
        ⟨some 34, (.call g_impl_HarmonicFit), [.t 31, .t 32, .t 33], none⟩,
        ⟨some 30, .mv, [.t 34], none⟩,
        ⟨some 35, (.extract 0), [.t 30], none⟩,
        ⟨some 36, (.extract 1), [.t 30], none⟩,
        ⟨some 10, .mv, [.t 35], none⟩,
        ⟨some 11, .mv, [.t 36], none⟩])
       (.seq
        (.seq
         (.region false [
          ⟨some 37, .mv, [.t 10], none⟩,
          ⟨some 38, .mv, [.t 7], none⟩,
          ⟨some 39, (.call g_laws_eqFloat32S), [.t 37, .t 38], none⟩,
          ⟨some 40, .not, [.t 39], none⟩,
          ⟨some 41, .mv, [.t 40], none⟩,
          ⟨some 42, .mv, [.t 11], some (41, false)⟩,
          ⟨some 43, .mv, [.t 8], some (41, false)⟩,
          ⟨some 44, (.binb .neq), [.t 42, .t 43], some (41, false)⟩,
          ⟨some 45, .pick, [.t 41, .k (.b true), .t 44], none⟩])
         (.cond (.t 45)
          (.seq
           (.region false [
            ⟨some 6, .mv, [.k (.b false)], none⟩])
           .ret)
          .skip))
        (.seq
         (.seq
          (.region false [
           ⟨some 46, .mv, [.t 9], none⟩,
           ⟨some 47, .mv, [.t 0], none⟩,
           ⟨some 48, (.call g_laws_toFloat32S), [.t 47], none⟩,
           ⟨some 49, (.call g_laws_eqFloat32S), [.t 46, .t 48], none⟩,
           ⟨some 50, .not, [.t 49], none⟩])
          (.cond (.t 50)
           (.seq
            (.region false [
             ⟨some 6, .mv, [.k (.b false)], none⟩])
            .ret)
           .skip))
         (.seq
          (.region false [
           ⟨some 12, .mv, [.k (.i .i64 1)], none⟩])
          (.seq
           (.region false [
            ⟨some 51, .mv, [.t 9], none⟩,
            ⟨some 52, .mv, [.t 12], none⟩,
            ⟨some 53, (.call g_laws_markFloat32S), [.t 51, .t 52], none⟩,
            ⟨some 12, .mv, [.t 53], none⟩])
           (.seq
            (.seq
             (.region false [
              ⟨some 54, .mv, [.t 12], none⟩,
              ⟨some 55, (.bin .lss), [.t 54, .k (.i .i64 0)], none⟩,
              ⟨some 56, .mv, [.t 55], none⟩,
              ⟨some 57, .mv, [.t 10], some (56, false)⟩,
              ⟨some 58, .mv, [.t 7], some (56, false)⟩,
              ⟨some 59, (.call g_laws_eqFloat32S), [.t 57, .t 58], some (56, false)⟩,
              ⟨some 60, .not, [.t 59], some (56, false)⟩,
              ⟨some 61, .pick, [.t 56, .k (.b true), .t 60], none⟩,
              ⟨some 62, .mv, [.t 61], none⟩,
              ⟨some 63, .mv, [.t 11], some (62, false)⟩,
              ⟨some 64, .mv, [.t 8], some (62, false)⟩,
              ⟨some 65, (.binb .neq), [.t 63, .t 64], some (62, false)⟩,
              ⟨some 66, .pick, [.t 62, .k (.b true), .t 65], none⟩])
             (.cond (.t 66)
              (.seq
               (.region false [
                ⟨some 6, .mv, [.k (.b false)], none⟩])
               .ret)
              .skip))
            (.seq
             (.region false [
              ⟨some 13, .mv, [.k (.i .i64 1)], none⟩])
             (.seq
              (.region false [
               ⟨some 67, .mv, [.t 10], none⟩,
               ⟨some 68, .mv, [.t 13], none⟩,
               ⟨some 69, (.call g_laws_markFloat32S), [.t 67, .t 68], none⟩,
               ⟨some 13, .mv, [.t 69], none⟩])
              (.seq
               (.region false [
                ⟨some 14, .mv, [.k (.i .i64 1)], none⟩])
               (.seq
                (.region false [
                 ⟨some 70, .mv, [.t 10], none⟩,
                 ⟨some 71, .mv, [.t 14], none⟩,
                 ⟨some 72, (.call g_laws_heldFloat32S), [.t 70, .t 71], none⟩,
                 ⟨some 14, .mv, [.t 72], none⟩])
                (.seq
                 (.seq
                  (.region false [
                   ⟨some 73, .mv, [.t 14], none⟩,
                   ⟨some 74, (.bin .lss), [.t 73, .k (.i .i64 0)], none⟩])
                  (.cond (.t 74)
                   (.seq
                    (.region false [
                     ⟨some 6, .mv, [.k (.b false)], none⟩])
                    .ret)
                   .skip))
                 (.seq
                  (.seq
                   (.region false [
                    ⟨some 75, .mv, [.t 14], none⟩,
                    ⟨some 76, .mv, [.t 13], none⟩,
                    ⟨some 77, (.bin .neq), [.t 75, .t 76], none⟩])
                   (.cond (.t 77)
                    (.seq
                     (.region false [
                      ⟨some 6, .mv, [.k (.b false)], none⟩])
                     .ret)
                    .skip))
                  (.seq
                   (.region false [
                    ⟨some 79, .mv, [.t 0], none⟩,
                    ⟨some 80, (.call g_laws_toFloat32S), [.t 79], none⟩,
                    ⟨some 81, .mv, [.t 1], none⟩,
                    ⟨some 82, .mv, [.t 2], none⟩,
                    ⟨some 83, (.call g_impl_HarmonicFit), [.t 80, .t 81, .t 82], none⟩,
                    ⟨some 78, .mv, [.t 83], none⟩,
                    ⟨some 84, (.extract 0), [.t 78], none⟩,
                    ⟨some 85, (.extract 1), [.t 78], none⟩,
                    ⟨some 15, .mv, [.t 84], none⟩,
                    ⟨some 16, .mv, [.t 85], none⟩])
                   (.seq
                    (.seq
                     (.region false [
                      ⟨some 86, .mv, [.t 15], none⟩,
                      ⟨some 87, .mv, [.t 7], none⟩,
                      ⟨some 88, (.call g_laws_eqFloat32S), [.t 86, .t 87], none⟩,
                      ⟨some 89, .not, [.t 88], none⟩,
                      ⟨some 90, .mv, [.t 89], none⟩,
                      ⟨some 91, .mv, [.t 16], some (90, false)⟩,
                      ⟨some 92, .mv, [.t 8], some (90, false)⟩,
                      ⟨some 93, (.binb .neq), [.t 91, .t 92], some (90, false)⟩,
                      ⟨some 94, .pick, [.t 90, .k (.b true), .t 93], none⟩])
                     (.cond (.t 94)
                      (.seq
                       (.region false [
                        ⟨some 6, .mv, [.k (.b false)], none⟩])
                       .ret)
                      .skip))
                    (.seq
                     (.region false [
                      ⟨some 14, .mv, [.k (.i .i64 1)], none⟩])
                     (.seq
                      (.region false [
                       ⟨some 95, .mv, [.t 10], none⟩,
                       ⟨some 96, .mv, [.t 14], none⟩,
                       ⟨some 97, (.call g_laws_heldFloat32S), [.t 95, .t 96], none⟩,
                       ⟨some 14, .mv, [.t 97], none⟩])
                      (.seq
                       (.seq
                        (.region false [
                         ⟨some 98, .mv, [.t 14], none⟩,
                         ⟨some 99, (.bin .lss), [.t 98, .k (.i .i64 0)], none⟩])
                        (.cond (.t 99)
                         (.seq
                          (.region false [
                           ⟨some 6, .mv, [.k (.b false)], none⟩])
                          .ret)
                         .skip))
                       (.seq
                        (.seq
                         (.region false [
                          ⟨some 100, .mv, [.t 14], none⟩,
                          ⟨some 101, .mv, [.t 13], none⟩,
                          ⟨some 102, (.bin .neq), [.t 100, .t 101], none⟩])
                         (.cond (.t 102)
                          (.seq
                           (.region false [
                            ⟨some 6, .mv, [.k (.b false)], none⟩])
                           .ret)
                          .skip))
                        (.seq
                         (.region false [
                          ⟨some 6, .mv, [.k (.b true)], none⟩])
                         .ret)))))))))))))))))))))))

abbrev Is_laws_FnExactHarmonicFit (P : Program) (g_f : FuncId) (g_laws_toFloat32S g_spec_HarmonicFit g_impl_HarmonicFit g_laws_eqFloat32S g_laws_markFloat32S g_laws_heldFloat32S : FuncId) : Prop := FnIs P g_f 103 [.t 6] (b_laws_FnExactHarmonicFit g_laws_toFloat32S g_spec_HarmonicFit g_impl_HarmonicFit g_laws_eqFloat32S g_laws_markFloat32S g_laws_heldFloat32S)

abbrev C_laws_FnExactHarmonicFit (P : Program) (g_f : FuncId) : Prop := ∀ (a : List Nat) (p : Nat) (c : Int) (hx : a.length ≤ maxLen), VCall P g_f [PS [0] .f32 a, .f .f32 p, .i .i64 c] (.b true)
def oc1_laws_FnExactHarmonicFit (as : List AV) : T AV := match as with | [.sl _ _ (.f .f32 a), .f .f32 p, .i .i64 c] => .leaf (.b true) | _ => .fail
def oc_laws_FnExactHarmonicFit (a : List Nat) (p : Nat) (c : Int) (d : Nat) (as : List AV) : T AV := match d with | 22 => oc1_laws_toFloat32S as | 25 => oc1_spec_HarmonicFit as | 29 => oc1_laws_toFloat32S as | 34 => oc1_impl_HarmonicFit as | 39 => oc1_laws_eqFloat32S as | 48 => oc1_laws_toFloat32S as | 49 => oc1_laws_eqFloat32S as | 53 => oc1_laws_markFloat32S as | 59 => oc1_laws_eqFloat32S as | 69 => oc1_laws_markFloat32S as | 72 => oc1_laws_heldFloat32S as | 80 => oc1_laws_toFloat32S as | 83 => oc1_impl_HarmonicFit as | 88 => oc1_laws_eqFloat32S as | 97 => oc1_laws_heldFloat32S as | _ => .fail



theorem q_laws_FnExactHarmonicFit {P : Program} {g_f : FuncId} {g_laws_toFloat32S g_spec_HarmonicFit g_impl_HarmonicFit g_laws_eqFloat32S g_laws_markFloat32S g_laws_heldFloat32S : FuncId} (h_ : Is_laws_FnExactHarmonicFit P g_f g_laws_toFloat32S g_spec_HarmonicFit g_impl_HarmonicFit g_laws_eqFloat32S g_laws_markFloat32S g_laws_heldFloat32S) (a : List Nat) (p : Nat) (c : Int) (ht : T.ok (fun x_ => x_ = .b true) (
      T.ite (decide ((↑(List.length a) : Int) > 1048576)) (T.leaf (AV.b true))
        (T.ob ((VCall P) g_laws_toFloat32S [AV.sl (Tag.par [0]) 0 (Cont.f FloatKind.f32 a)] (AV.sl (Tag.own 0) 0 (Cont.f FloatKind.f32 a)))
          (T.ob ((VCall P) g_spec_HarmonicFit [AV.sl (Tag.par [0]) 0 (Cont.f FloatKind.f32 a), AV.f FloatKind.f32 p, AV.i IntKind.i64 c] (AV.tup [AV.sl (Tag.own 0) 0 (Cont.f FloatKind.f32 (hfOut a p c)), AV.b (hfOk a p c)]))
            (T.ob ((VCall P) g_laws_toFloat32S [AV.sl (Tag.par [0]) 0 (Cont.f FloatKind.f32 a)] (AV.sl (Tag.own 0) 0 (Cont.f FloatKind.f32 a)))
              (T.ob ((VCall P) g_impl_HarmonicFit [AV.sl (Tag.par [0]) 0 (Cont.f FloatKind.f32 a), AV.f FloatKind.f32 p, AV.i IntKind.i64 c] (AV.tup [AV.sl (Tag.own 0) 0 (Cont.f FloatKind.f32 (hfOut a p c)), AV.b (hfOk a p c)]))
                (T.ob ((VCall P) g_laws_eqFloat32S [AV.sl (Tag.par [0]) 0 (Cont.f FloatKind.f32 (hfOut a p c)), AV.sl (Tag.par [1]) 0 (Cont.f FloatKind.f32 (hfOut a p c))] (AV.b true))
                  (T.ite false (T.leaf (AV.b false))
                    (T.ite (!hfOk a p c == hfOk a p c) (T.leaf (AV.b false))
                      (T.ob ((VCall P) g_laws_toFloat32S [AV.sl (Tag.par [0]) 0 (Cont.f FloatKind.f32 a)] (AV.sl (Tag.own 0) 0 (Cont.f FloatKind.f32 a)))
                        (T.ob ((VCall P) g_laws_eqFloat32S [AV.sl (Tag.par [0]) 0 (Cont.f FloatKind.f32 a), AV.sl (Tag.par [1]) 0 (Cont.f FloatKind.f32 a)] (AV.b true))
                          (T.ite false (T.leaf (AV.b false))
                            (T.ob
                              ((VCall P) g_laws_markFloat32S [AV.sl (Tag.own 800000) 0 (Cont.f FloatKind.f32 a), AV.i IntKind.i64 1]
                                  (AV.bx Tag.nil [AV.i IntKind.i64 (1 + (↑(List.length a) : Int)), AV.tup [AV.sl (Tag.own 800000) 0 (Cont.f FloatKind.f32 (marksM (List.length a) 1)), AV.i IntKind.i64 1]]) ∧
                                List.length a = List.length (marksM (List.length a) 1) ∧ List.length a = List.length (marksM (List.length a) 1) ∧ True)
                              (T.ite false (T.leaf (AV.b false))
                                (T.ob ((VCall P) g_laws_eqFloat32S [AV.sl (Tag.par [0]) 0 (Cont.f FloatKind.f32 (hfOut a p c)), AV.sl (Tag.par [1]) 0 (Cont.f FloatKind.f32 (hfOut a p c))] (AV.b true))
                                  (T.ite false (T.leaf (AV.b false))
                                    (T.ite (!hfOk a p c == hfOk a p c) (T.leaf (AV.b false))
                                      (T.ob
                                        ((VCall P) g_laws_markFloat32S [AV.sl (Tag.own 800000) 0 (Cont.f FloatKind.f32 (hfOut a p c)), AV.i IntKind.i64 1]
                                            (AV.bx Tag.nil
                                              [AV.i IntKind.i64 (1 + (↑(List.length (hfOut a p c)) : Int)),
                                                AV.tup [AV.sl (Tag.own 800000) 0 (Cont.f FloatKind.f32 (marksM (List.length (hfOut a p c)) 1)), AV.i IntKind.i64 1]]) ∧
                                          List.length (hfOut a p c) = List.length (marksM (List.length (hfOut a p c)) 1) ∧ List.length (hfOut a p c) = List.length (marksM (List.length (hfOut a p c)) 1) ∧ True)
                                        (T.ob
                                          ((VCall P) g_laws_heldFloat32S [AV.sl (Tag.par [0]) 0 (Cont.f FloatKind.f32 (marksM (List.length (hfOut a p c)) 1)), AV.i IntKind.i64 1]
                                            (AV.i IntKind.i64 (1 + (↑(List.length (marksM (List.length (hfOut a p c)) 1)) : Int))))
                                          (T.ite false (T.leaf (AV.b false))
                                            (T.ite (1 + (↑(List.length (marksM (List.length (hfOut a p c)) 1)) : Int) != 1 + (↑(List.length (hfOut a p c)) : Int)) (T.leaf (AV.b false))
                                              (T.ob ((VCall P) g_laws_toFloat32S [AV.sl (Tag.par [0]) 0 (Cont.f FloatKind.f32 a)] (AV.sl (Tag.own 0) 0 (Cont.f FloatKind.f32 a)))
                                                (T.ob
                                                  ((VCall P) g_impl_HarmonicFit [AV.sl (Tag.par [0]) 0 (Cont.f FloatKind.f32 a), AV.f FloatKind.f32 p, AV.i IntKind.i64 c]
                                                    (AV.tup [AV.sl (Tag.own 0) 0 (Cont.f FloatKind.f32 (hfOut a p c)), AV.b (hfOk a p c)]))
                                                  (T.ob ((VCall P) g_laws_eqFloat32S [AV.sl (Tag.par [0]) 0 (Cont.f FloatKind.f32 (hfOut a p c)), AV.sl (Tag.par [1]) 0 (Cont.f FloatKind.f32 (hfOut a p c))] (AV.b true))
                                                    (T.ite false (T.leaf (AV.b false))
                                                      (T.ite (!hfOk a p c == hfOk a p c) (T.leaf (AV.b false))
                                                        (T.ob
                                                          ((VCall P) g_laws_heldFloat32S [AV.sl (Tag.par [0]) 0 (Cont.f FloatKind.f32 (marksM (List.length (hfOut a p c)) 1)), AV.i IntKind.i64 1]
                                                            (AV.i IntKind.i64 (1 + (↑(List.length (marksM (List.length (hfOut a p c)) 1)) : Int))))
                                                          (T.ite false (T.leaf (AV.b false))
                                                            (T.ite (1 + (↑(List.length (marksM (List.length (hfOut a p c)) 1)) : Int) != 1 + (↑(List.length (hfOut a p c)) : Int)) (T.leaf (AV.b false))
                                                              (T.leaf (AV.b true))))))))))))))))))))))))))))))) :
    VCall P g_f [PS [0] .f32 a, .f .f32 p, .i .i64 c] (.b true) := h_.call_of ps_laws_FnExactHarmonicFit ⟨oc_laws_FnExactHarmonicFit a p c, fun _ _ => none⟩ (by kernel_rfl) ht

-- END laws_FnExactHarmonicFit

theorem hf_out_len (a : List Nat) (p : Nat) (c : Int) : (hfOut a p c).length ≤ 96 := by
  unfold hfOut
  split
  · exact ft_out_len _ _
  · simp
theorem k_laws_FnExactHarmonicFit {P : Program} {f g_laws_toFloat32S g_spec_HarmonicFit g_impl_HarmonicFit g_laws_eqFloat32S g_laws_markFloat32S g_laws_heldFloat32S : FuncId} (h : Is_laws_FnExactHarmonicFit P f g_laws_toFloat32S g_spec_HarmonicFit g_impl_HarmonicFit g_laws_eqFloat32S g_laws_markFloat32S g_laws_heldFloat32S) (c1 : C_laws_toFloat32S P g_laws_toFloat32S) (c2 : C_spec_HarmonicFit P g_spec_HarmonicFit) (c3 : C_impl_HarmonicFit P g_impl_HarmonicFit) (c4 : C_laws_eqFloat32S P g_laws_eqFloat32S) (c5 : C_laws_markFloat32S P g_laws_markFloat32S) (c6 : C_laws_heldFloat32S P g_laws_heldFloat32S) : C_laws_FnExactHarmonicFit P f := by
  intro a p c hx
  refine q_laws_FnExactHarmonicFit h a p c ?_
  have hR := hf_out_len a p c
  have b2 := c2 a p c hx
  have b3 := c3 a p c hx
  generalize hfOut a p c = R at *
  repeat' (first | with_reducible refine T.ok_ob ?_ (fun _ => ?_) | with_reducible refine T.ok_ite (fun _ => ?_) (fun _ => ?_) | with_reducible refine T.ok_leaf ?_)
  all_goals (try simp only [decide_eq_true_eq, decide_eq_false_iff_not, sz_lt, gt_iff_lt, Int.not_lt, Bool.not_beq_self, bne_self_eq_false, beq_self_eq_true] at *)
  all_goals (try simp (disch := omega) only [sz_val] at *)
  all_goals first | with_reducible rfl | with_reducible assumption | ((with_reducible refine c1 _ ?_) <;> (first | assumption | omega | with_reducible rfl | (simp [maxLen_eq]; done) | (simp [maxLen_eq]; omega))) | ((with_reducible refine c2 _ _ _ ?_) <;> (first | assumption | omega | with_reducible rfl | (simp [maxLen_eq]; done) | (simp [maxLen_eq]; omega))) | ((with_reducible refine c3 _ _ _ ?_) <;> (first | assumption | omega | with_reducible rfl | (simp [maxLen_eq]; done) | (simp [maxLen_eq]; omega))) | ((with_reducible refine c4 _ _ rfl ?_) <;> (first | assumption | omega | with_reducible rfl | (simp [maxLen_eq]; done) | (simp [maxLen_eq]; omega))) | ((with_reducible refine ⟨c5 _ _ ?_ ?_, ?_⟩) <;> first | assumption | omega | (simp [marks_len]; done) | (simp [marks_len]; omega)) | ((with_reducible refine c6 _ _ _ rfl ?_ ?_) <;> (first | assumption | omega | with_reducible rfl | (simp [maxLen_eq]; done) | (simp [maxLen_eq]; omega))) | contradiction | exact fconvOk_32_64 _ | assumption | exact rfl | (simp only [marks_len, bne_self_eq_false, Bool.false_eq_true] at *; done) | (simp_all [marks_len]; done) | (simp_all [T.ok, marks_len]; omega)


end Go.Proofs.LV
