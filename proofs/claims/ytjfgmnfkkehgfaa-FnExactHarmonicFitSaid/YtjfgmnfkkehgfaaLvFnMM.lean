/- ColumnFit and RestOfFit. -/
import Derived.Test.YtjfgmnfkkehgfaaLvFnLL
import Derived.Test.YtjfgmnfkkehgfaaLvFnDX
import Derived.Test.YtjfgmnfkkehgfaaLvFnMX
namespace Go.Proofs.LV
open Go
set_option linter.unusedVariables false
set_option linter.unusedSimpArgs false

def ftC (xss : LL) (y : List Nat) : Bool := seriesM y && (colsM xss y.length && cfOk (cfG xss y) xss.length)
def ftT (xss : LL) (y : List Nat) : List Nat := cfOut (cfG xss y) xss.length
def ftOk (xss : LL) (y : List Nat) : Bool := ftC xss y && finAllM (ftT xss y)
def ftOut (xss : LL) (y : List Nat) : List Nat := if ftOk xss y = true then ftT xss y else []


-- FN spec_ColumnFit
/-- spec.ColumnFit: slots 34, results [.t 4, .t 5]; calls [9:g_spec_l03Columns, 13:g_spec_l02Series, 28:g_spec_l03Fit]; names [(columns, 0), (y, 1), (columns, 2), (y, 3), (terms, 6), (ok, 7)] -/
def ps_spec_ColumnFit : List Nat := [0, 1, 4, 5, 6, 7, 24, 32]
def b_spec_ColumnFit (g_spec_l03Columns g_spec_l02Series g_spec_l03Fit : FuncId) : VCode :=
  (.seq
   (.region false [
    ⟨some 4, (.nilsl (.f .f32 [])), [], none⟩,
    ⟨some 5, .mv, [.k (.b false)], none⟩])
   (.seq
    (.seq
     (.region false [
      ⟨some 8, .mv, [.t 0], none⟩,
      ⟨some 9, (.call g_spec_l03Columns), [.t 8], none⟩,
      ⟨some 10, .not, [.t 9], none⟩,
      ⟨some 11, .mv, [.t 10], none⟩,
      ⟨some 12, .mv, [.t 1], some (11, false)⟩,
      ⟨some 13, (.call g_spec_l02Series), [.t 12], some (11, false)⟩,
      ⟨some 14, .not, [.t 13], some (11, false)⟩,
      ⟨some 15, .pick, [.t 11, .k (.b true), .t 14], none⟩,
      ⟨some 16, .mv, [.t 15], none⟩,
      ⟨some 17, .mv, [.t 1], some (16, false)⟩,
      ⟨some 18, .len, [.t 17], some (16, false)⟩,
      ⟨some 19, .mv, [.t 0], some (16, false)⟩,
      ⟨some 20, .iaddr, [.t 19, .k (.i .i64 0)], some (16, false)⟩,
      ⟨some 21, .load, [.t 20], some (16, false)⟩,
      ⟨some 22, .len, [.t 21], some (16, false)⟩,
      ⟨some 23, (.bin .neq), [.t 18, .t 22], some (16, false)⟩,
      ⟨some 24, .pick, [.t 16, .k (.b true), .t 23], none⟩])
     (.cond (.t 24)
      (.seq
       (.region false [
        ⟨some 4, (.nilsl (.f .f32 [])), [], none⟩,
        ⟨some 5, .mv, [.k (.b false)], none⟩])
       .ret)
      .skip))
    (.seq
     (.region false [
      ⟨some 26, .mv, [.t 0], none⟩,
      ⟨some 27, .mv, [.t 1], none⟩,
      ⟨some 28, (.call g_spec_l03Fit), [.t 26, .t 27], none⟩,
      ⟨some 25, .mv, [.t 28], none⟩,
      ⟨some 29, (.extract 0), [.t 25], none⟩,
      ⟨some 30, (.extract 1), [.t 25], none⟩,
      ⟨some 6, .mv, [.t 29], none⟩,
      ⟨some 7, .mv, [.t 30], none⟩])
     (.seq
      (.seq
       (.region false [
        ⟨some 31, .mv, [.t 7], none⟩,
        ⟨some 32, .not, [.t 31], none⟩])
       (.cond (.t 32)
        (.seq
         (.region false [
          ⟨some 4, (.nilsl (.f .f32 [])), [], none⟩,
          ⟨some 5, .mv, [.k (.b false)], none⟩])
         .ret)
        .skip))
      (.seq
       (.region false [
        ⟨some 33, .mv, [.t 6], none⟩,
        ⟨some 4, .mv, [.t 33], none⟩,
        ⟨some 5, .mv, [.k (.b true)], none⟩])
       .ret)))))

abbrev Is_spec_ColumnFit (P : Program) (g_f : FuncId) (g_spec_l03Columns g_spec_l02Series g_spec_l03Fit : FuncId) : Prop := FnIs P g_f 34 [.t 4, .t 5] (b_spec_ColumnFit g_spec_l03Columns g_spec_l02Series g_spec_l03Fit)

abbrev C_spec_ColumnFit (P : Program) (g_f : FuncId) : Prop := ∀ (xss : LL) (y : List Nat) (hx : xss.length ≤ maxLen) (hr : ∀ r ∈ xss, r.length ≤ maxLen) (hy : y.length ≤ maxLen), VCall P g_f [PF [0] xss, PS [1] .f32 y] (.tup [OS 0 .f32 (ftOut xss y), .b (ftOk xss y)])
def oc1_spec_ColumnFit (as : List AV) : T AV := match as with | [.sl _ _ (.ff _ xss), .sl _ _ (.f .f32 y)] => .leaf (.tup [OS 0 .f32 (ftOut xss y), .b (ftOk xss y)]) | _ => .fail
def oc_spec_ColumnFit (xss : LL) (y : List Nat) (d : Nat) (as : List AV) : T AV := match d with | 9 => oc1_spec_l03Columns as | 13 => oc1_spec_l02Series as | 28 => oc1_spec_l03Fit as | _ => .fail



theorem q_spec_ColumnFit {P : Program} {g_f : FuncId} {g_spec_l03Columns g_spec_l02Series g_spec_l03Fit : FuncId} (h_ : Is_spec_ColumnFit P g_f g_spec_l03Columns g_spec_l02Series g_spec_l03Fit) (xss : LL) (y : List Nat) (ht : T.ok (fun x_ => x_ = .tup [OS 0 .f32 (ftOut xss y), .b (ftOk xss y)]) (
      T.ob ((VCall P) g_spec_l03Columns [AV.sl (Tag.par [0]) 0 (Cont.ff FloatKind.f32 xss)] (AV.b (colsM xss (List.length (List.getD xss 0 [])))))
        (T.ite (!colsM xss (List.length (List.getD xss 0 []))) (T.leaf (AV.tup [AV.sl (Tag.own 0) 0 (Cont.f FloatKind.f32 []), AV.b false]))
          (T.ob ((VCall P) g_spec_l02Series [AV.sl (Tag.par [0]) 0 (Cont.f FloatKind.f32 y)] (AV.b (seriesM y)))
            (T.ite (!seriesM y) (T.leaf (AV.tup [AV.sl (Tag.own 0) 0 (Cont.f FloatKind.f32 []), AV.b false]))
              (T.ob ((0 : Int) ≤ 0 ∧ 0 < (↑(List.length xss) : Int))
                (T.ite ((↑(List.length y) : Int) != (↑(List.length (List.getD xss 0 [])) : Int)) (T.leaf (AV.tup [AV.sl (Tag.own 0) 0 (Cont.f FloatKind.f32 []), AV.b false]))
                  (T.ob
                    ((VCall P) g_spec_l03Fit [AV.sl (Tag.par [0]) 0 (Cont.ff FloatKind.f32 xss), AV.sl (Tag.par [1]) 0 (Cont.f FloatKind.f32 y)]
                      (AV.tup [AV.sl (Tag.own 0) 0 (Cont.f FloatKind.f32 (if lfAll xss y = true then lfOut xss y else [])), AV.b (lfAll xss y && finAllM (lfOut xss y))]))
                    (T.ite (!(lfAll xss y && finAllM (lfOut xss y))) (T.leaf (AV.tup [AV.sl (Tag.own 0) 0 (Cont.f FloatKind.f32 []), AV.b false]))
                      (T.leaf (AV.tup [AV.sl (Tag.own 0) 0 (Cont.f FloatKind.f32 (if lfAll xss y = true then lfOut xss y else [])), AV.b true]))))))))))) :
    VCall P g_f [PF [0] xss, PS [1] .f32 y] (.tup [OS 0 .f32 (ftOut xss y), .b (ftOk xss y)]) := h_.call_of ps_spec_ColumnFit ⟨oc_spec_ColumnFit xss y, fun _ _ => none⟩ (by kernel_rfl) ht

-- END spec_ColumnFit

def roR (xss : LL) (y : List Nat) : List Nat := lessM y (fitM xss (ftT xss y))
def roS (xss : LL) (y : List Nat) : Nat := dotM (roR xss y) (roR xss y)
def roOk (xss : LL) (y : List Nat) : Bool := ftOk xss y && (finAllM (roR xss y) && finM (roS xss y))



theorem bnot_t : ∀ {b : Bool}, (!b) = true → b = false | false, _ => rfl
theorem bnot_f : ∀ {b : Bool}, (!b) = false → b = true | true, _ => rfl
theorem k_spec_ColumnFit {P : Program} {f g1 g2 g3 : FuncId} (h : Is_spec_ColumnFit P f g1 g2 g3) (c1 : C_spec_l03Columns P g1) (c2 : C_spec_l02Series P g2) (c3 : C_spec_l03Fit P g3) : C_spec_ColumnFit P f := by
  intro xss y hx hr hy
  have hcc : colsM xss y.length = true → colsM xss (xss.getD 0 []).length = true ∧ y.length = (xss.getD 0 []).length := by
    intro hc
    obtain ⟨f1, f2, f3⟩ := cols_facts hc
    have := (f2 0 (by omega)).2
    rw [this]; exact ⟨hc, rfl⟩
  refine q_spec_ColumnFit h xss y ⟨c1 _ hx hr, fun _ => ⟨fun h1 => ?_, fun h1 => ⟨c2 _ hy, fun _ => ⟨fun h2 => ?_, fun h2 => ?_⟩⟩⟩⟩
  · have h1 : colsM xss (xss.getD 0 []).length = false := by simpa only [Bool.not_eq_true'] using h1
    have : colsM xss y.length = false := by
      cases hc : colsM xss y.length with
      | false => rfl
      | true => rw [(hcc hc).1] at h1; cases h1
    simp only [T.ok, ftOut, ftOk, ftC, this, Bool.false_and, Bool.and_false, Bool.false_eq_true, if_false]
  · have h2 : seriesM y = false := by simpa using h2
    simp only [T.ok, ftOut, ftOk, ftC, h2, Bool.false_and, Bool.false_eq_true, if_false]
  · have h1 : colsM xss (xss.getD 0 []).length = true := by simpa only [Bool.not_eq_false'] using h1
    have h2 : seriesM y = true := by simpa using h2
    obtain ⟨f1, f2, f3⟩ := cols_facts h1
    refine ⟨by omega, fun _ => ⟨fun h3 => ?_, fun h3 => ?_⟩⟩
    · have : colsM xss y.length = false := by
        cases hc : colsM xss y.length with
        | false => rfl
        | true => rw [(hcc hc).2] at h3; simp at h3
      simp only [T.ok, ftOut, ftOk, ftC, this, Bool.false_and, Bool.and_false, Bool.false_eq_true, if_false]
    · have h3 : y.length = (xss.getD 0 []).length := by
        have : (y.length : Int) = (xss.getD 0 []).length := by simpa only [bne_eq_false_iff_eq] using h3
        omega
      have hs : ∀ i, i < xss.length → (xss.getD i []).length = y.length := fun i hi => by rw [(f2 i hi).2, h3]
      have h4 : colsM xss y.length = true := by rw [h3]; exact h1
      obtain ⟨e1, e2⟩ := fit_same xss y f1.1 hs
      have c := c3 xss y f1 hs (by omega)
      rw [e1] at c ⊢
      cases ho : cfOk (cfG xss y) xss.length with
      | false =>
        rw [ho] at c
        simp only [Bool.false_eq_true, if_false, Bool.false_and] at c ⊢
        refine ⟨c, fun _ => ⟨fun _ => ?_, fun h => absurd h (by simp)⟩⟩
        simp only [T.ok, ftOut, ftOk, ftC, ho, Bool.false_and, Bool.and_false, Bool.false_eq_true, if_false]
      | true =>
        rw [ho, e2 ho] at c
        rw [e2 ho]
        simp only [if_true, Bool.true_and] at c ⊢
        refine ⟨c, fun _ => ⟨fun h5 => ?_, fun h5 => ?_⟩⟩
        · have h5 : finAllM (ftT xss y) = false := bnot_t h5
          simp only [T.ok, ftOut, ftOk, h5, Bool.and_false, Bool.false_eq_true, if_false]
        · have h5 : finAllM (ftT xss y) = true := bnot_f h5
          simp only [T.ok, ftOut, ftOk, ftC, h2, h4, ho, h5, Bool.and_self, if_true]; rfl

theorem ftOk_facts {xss : LL} {y : List Nat} (h : ftOk xss y = true) : (1 ≤ xss.length ∧ xss.length ≤ 6) ∧ (∀ i, i < xss.length → (xss.getD i []).length = y.length) ∧ y.length ≤ 96 ∧ seriesM y = true ∧ finAllM (ftT xss y) = true ∧ (ftT xss y).length = xss.length ∧ colsM xss y.length = true := by
  unfold ftOk ftC at h
  simp only [Bool.and_eq_true] at h
  obtain ⟨f1, f2, f3⟩ := cols_facts h.1.2.1
  exact ⟨f1, fun i hi => (f2 i hi).2, f3, h.1.1, h.2, bkN_len _ _ _, h.1.2.1⟩
theorem roR_len (xss : LL) (y : List Nat) : (roR xss y).length = y.length := less_len _ _

end Go.Proofs.LV
