/- ColumnFit and RestOfFit. -/
import Derived.Test.YtdffgjembkanoaaLvFnLL
import Derived.Test.YtdffgjembkanoaaLvAbsX
namespace Go.Proofs.LV
open Go
set_option linter.unusedVariables false
set_option linter.unusedSimpArgs false

def ftC (xss : LL) (y : List Nat) : Bool := seriesM y && (colsM xss y.length && cfOk (cfG xss y) xss.length)
def ftT (xss : LL) (y : List Nat) : List Nat := cfOut (cfG xss y) xss.length
def ftOk (xss : LL) (y : List Nat) : Bool := ftC xss y && finAllM (ftT xss y)
def ftOut (xss : LL) (y : List Nat) : List Nat := if ftOk xss y = true then ftT xss y else []

-- FN impl_ColumnFit
def ps_impl_ColumnFit : List Nat := [0, 1, 4, 5, 15]
def b_impl_ColumnFit (gq0 gq1 gq2 : FuncId) : VCode :=
 (.seq
 (.region false [
 ⟨some 4, (.nilsl (.f .f32 [])), [], none⟩,
 ⟨some 5, .mv, [.k (.b false)], none⟩])
 (.seq
 (.seq
 (.region false [
 ⟨some 6, .mv, [.t 1], none⟩,
 ⟨some 7, (.call gq0), [.t 6], none⟩,
 ⟨some 8, .not, [.t 7], none⟩,
 ⟨some 9, .mv, [.t 8], none⟩,
 ⟨some 10, .mv, [.t 0], some (9, false)⟩,
 ⟨some 11, .mv, [.t 1], some (9, false)⟩,
 ⟨some 12, .len, [.t 11], some (9, false)⟩,
 ⟨some 13, (.call gq1), [.t 10, .t 12], some (9, false)⟩,
 ⟨some 14, .not, [.t 13], some (9, false)⟩,
 ⟨some 15, .pick, [.t 9, .k (.b true), .t 14], none⟩])
 (.cond (.t 15)
 (.seq
 (.region false [
 ⟨some 4, (.nilsl (.f .f32 [])), [], none⟩,
 ⟨some 5, .mv, [.k (.b false)], none⟩])
 .ret)
 .skip))
 (.seq
 (.region false [
 ⟨some 16, .mv, [.t 0], none⟩,
 ⟨some 17, .mv, [.t 1], none⟩,
 ⟨some 18, (.call gq2), [.t 16, .t 17], none⟩,
 ⟨some 19, (.extract 0), [.t 18], none⟩,
 ⟨some 20, (.extract 1), [.t 18], none⟩,
 ⟨some 4, .mv, [.t 19], none⟩,
 ⟨some 5, .mv, [.t 20], none⟩])
 .ret)))

abbrev Is_impl_ColumnFit (P : Program) (g_f : FuncId) (gq0 gq1 gq2 : FuncId) : Prop := FnIs P g_f 21 [.t 4, .t 5] (b_impl_ColumnFit gq0 gq1 gq2)

abbrev C_impl_ColumnFit (P : Program) (g_f : FuncId) : Prop := ∀ (xss : LL) (y : List Nat) (hx : xss.length ≤ maxLen) (hr : ∀ r ∈ xss, r.length ≤ maxLen) (hy : y.length ≤ maxLen), VCall P g_f [PF [0] xss, PS [1] .f32 y] (.tup [OS 0 .f32 (ftOut xss y), .b (ftOk xss y)])
def oc_impl_ColumnFit (xss : LL) (y : List Nat) (d : Nat) (as : List AV) : T AV := match d with | 7 => oc1_impl_IsSeries as | 13 => oc1_impl_areColumns as | 18 => oc1_impl_columnFit as | _ => .fail



theorem q_impl_ColumnFit {P : Program} {g_f : FuncId} {gq0 gq1 gq2 : FuncId} (h_ : Is_impl_ColumnFit P g_f gq0 gq1 gq2) (xss : LL) (y : List Nat) (ht : T.ok (fun x_ => x_ = .tup [OS 0 .f32 (ftOut xss y), .b (ftOk xss y)]) (
 T.ob ((VCall P) gq0 [AV.sl (Tag.par [0]) 0 (Cont.f .f32 y)] (AV.b (seriesM y)))
 (T.ite (!seriesM y) (T.leaf (AV.tup [AV.sl (Tag.own 0) 0 (Cont.f .f32 []), AV.b false]))
 (T.ob ((VCall P) gq1 [AV.sl (Tag.par [0]) 0 (Cont.ff .f32 xss), AV.i .i64 (↑(List.length y) : Int)] (AV.b (colsM xss (Int.toNat (↑(List.length y) : Int)))))
 (T.ite (!colsM xss (Int.toNat (↑(List.length y) : Int))) (T.leaf (AV.tup [AV.sl (Tag.own 0) 0 (Cont.f .f32 []), AV.b false]))
 (T.ob
 ((VCall P) gq2 [AV.sl (Tag.par [0]) 0 (Cont.ff .f32 xss), AV.sl (Tag.par [1]) 0 (Cont.f .f32 y)]
 (AV.tup
 [AV.sl (Tag.own 0) 0 (Cont.f .f32 (if cfOk (cfG xss y) (List.length xss) = true then ifAllM (cfOut (cfG xss y) (List.length xss)) else [])),
 AV.b (cfOk (cfG xss y) (List.length xss) && finAllM (cfOut (cfG xss y) (List.length xss)))]))
 (T.leaf
 (AV.tup
 [AV.sl (Tag.own 0) 0 (Cont.f .f32 (if cfOk (cfG xss y) (List.length xss) = true then ifAllM (cfOut (cfG xss y) (List.length xss)) else [])),
 AV.b (cfOk (cfG xss y) (List.length xss) && finAllM (cfOut (cfG xss y) (List.length xss)))])))))))) :
 VCall P g_f [PF [0] xss, PS [1] .f32 y] (.tup [OS 0 .f32 (ftOut xss y), .b (ftOk xss y)]) := h_.call_of ps_impl_ColumnFit ⟨oc_impl_ColumnFit xss y, fun _ _ => none⟩ (by kernel_rfl) ht

-- END impl_ColumnFit

-- FN spec_ColumnFit
def ps_spec_ColumnFit : List Nat := [0, 1, 4, 5, 6, 7, 24, 32]
def b_spec_ColumnFit (gq0 gq1 gq2 : FuncId) : VCode :=
 (.seq
 (.region false [
 ⟨some 4, (.nilsl (.f .f32 [])), [], none⟩,
 ⟨some 5, .mv, [.k (.b false)], none⟩])
 (.seq
 (.seq
 (.region false [
 ⟨some 8, .mv, [.t 0], none⟩,
 ⟨some 9, (.call gq0), [.t 8], none⟩,
 ⟨some 10, .not, [.t 9], none⟩,
 ⟨some 11, .mv, [.t 10], none⟩,
 ⟨some 12, .mv, [.t 1], some (11, false)⟩,
 ⟨some 13, (.call gq1), [.t 12], some (11, false)⟩,
 ⟨some 14, .not, [.t 13], some (11, false)⟩,
 ⟨some 15, .pick, [.t 11, .k (.b true), .t 14], none⟩,
 ⟨some 16, .mv, [.t 15], none⟩,
 ⟨some 17, .mv, [.t 1], some (16, false)⟩,
 ⟨some 18, .len, [.t 17], some (16, false)⟩,
 ⟨some 19, .mv, [.t 0], some (16, false)⟩,
 ⟨some 20, .iaddr, [.t 19, .k (.i .i64 0)], some (16, false)⟩,
 ⟨some 21, .load, [.t 20], some (16, false)⟩,
 ⟨some 22, .len, [.t 21], some (16, false)⟩,
 ⟨some 23, (.bin .neq), [.t 18, .t 22], some (16, false)⟩,
 ⟨some 24, .pick, [.t 16, .k (.b true), .t 23], none⟩])
 (.cond (.t 24)
 (.seq
 (.region false [
 ⟨some 4, (.nilsl (.f .f32 [])), [], none⟩,
 ⟨some 5, .mv, [.k (.b false)], none⟩])
 .ret)
 .skip))
 (.seq
 (.region false [
 ⟨some 26, .mv, [.t 0], none⟩,
 ⟨some 27, .mv, [.t 1], none⟩,
 ⟨some 28, (.call gq2), [.t 26, .t 27], none⟩,
 ⟨some 25, .mv, [.t 28], none⟩,
 ⟨some 29, (.extract 0), [.t 25], none⟩,
 ⟨some 30, (.extract 1), [.t 25], none⟩,
 ⟨some 6, .mv, [.t 29], none⟩,
 ⟨some 7, .mv, [.t 30], none⟩])
 (.seq
 (.seq
 (.region false [
 ⟨some 31, .mv, [.t 7], none⟩,
 ⟨some 32, .not, [.t 31], none⟩])
 (.cond (.t 32)
 (.seq
 (.region false [
 ⟨some 4, (.nilsl (.f .f32 [])), [], none⟩,
 ⟨some 5, .mv, [.k (.b false)], none⟩])
 .ret)
 .skip))
 (.seq
 (.region false [
 ⟨some 33, .mv, [.t 6], none⟩,
 ⟨some 4, .mv, [.t 33], none⟩,
 ⟨some 5, .mv, [.k (.b true)], none⟩])
 .ret)))))

abbrev Is_spec_ColumnFit (P : Program) (g_f : FuncId) (gq0 gq1 gq2 : FuncId) : Prop := FnIs P g_f 34 [.t 4, .t 5] (b_spec_ColumnFit gq0 gq1 gq2)

abbrev C_spec_ColumnFit (P : Program) (g_f : FuncId) : Prop := ∀ (xss : LL) (y : List Nat) (hx : xss.length ≤ maxLen) (hr : ∀ r ∈ xss, r.length ≤ maxLen) (hy : y.length ≤ maxLen), VCall P g_f [PF [0] xss, PS [1] .f32 y] (.tup [OS 0 .f32 (ftOut xss y), .b (ftOk xss y)])
def oc_spec_ColumnFit (xss : LL) (y : List Nat) (d : Nat) (as : List AV) : T AV := match d with | 9 => oc1_spec_l03Columns as | 13 => oc1_spec_l02Series as | 28 => oc1_spec_l03Fit as | _ => .fail



theorem q_spec_ColumnFit {P : Program} {g_f : FuncId} {gq0 gq1 gq2 : FuncId} (h_ : Is_spec_ColumnFit P g_f gq0 gq1 gq2) (xss : LL) (y : List Nat) (ht : T.ok (fun x_ => x_ = .tup [OS 0 .f32 (ftOut xss y), .b (ftOk xss y)]) (
 T.ob ((VCall P) gq0 [AV.sl (Tag.par [0]) 0 (Cont.ff .f32 xss)] (AV.b (colsM xss (List.length (List.getD xss 0 [])))))
 (T.ite (!colsM xss (List.length (List.getD xss 0 []))) (T.leaf (AV.tup [AV.sl (Tag.own 0) 0 (Cont.f .f32 []), AV.b false]))
 (T.ob ((VCall P) gq1 [AV.sl (Tag.par [0]) 0 (Cont.f .f32 y)] (AV.b (seriesM y)))
 (T.ite (!seriesM y) (T.leaf (AV.tup [AV.sl (Tag.own 0) 0 (Cont.f .f32 []), AV.b false]))
 (T.ob ((0 : Int) ≤ 0 ∧ 0 < (↑(List.length xss) : Int))
 (T.ite ((↑(List.length y) : Int) != (↑(List.length (List.getD xss 0 [])) : Int)) (T.leaf (AV.tup [AV.sl (Tag.own 0) 0 (Cont.f .f32 []), AV.b false]))
 (T.ob
 ((VCall P) gq2 [AV.sl (Tag.par [0]) 0 (Cont.ff .f32 xss), AV.sl (Tag.par [1]) 0 (Cont.f .f32 y)]
 (AV.tup [AV.sl (Tag.own 0) 0 (Cont.f .f32 (if lfAll xss y = true then lfOut xss y else [])), AV.b (lfAll xss y && finAllM (lfOut xss y))]))
 (T.ite (!(lfAll xss y && finAllM (lfOut xss y))) (T.leaf (AV.tup [AV.sl (Tag.own 0) 0 (Cont.f .f32 []), AV.b false]))
 (T.leaf (AV.tup [AV.sl (Tag.own 0) 0 (Cont.f .f32 (if lfAll xss y = true then lfOut xss y else [])), AV.b true]))))))))))) :
 VCall P g_f [PF [0] xss, PS [1] .f32 y] (.tup [OS 0 .f32 (ftOut xss y), .b (ftOk xss y)]) := h_.call_of ps_spec_ColumnFit ⟨oc_spec_ColumnFit xss y, fun _ _ => none⟩ (by kernel_rfl) ht

-- END spec_ColumnFit

def roR (xss : LL) (y : List Nat) : List Nat := lessM y (fitM xss (ftT xss y))
def roS (xss : LL) (y : List Nat) : Nat := dotM (roR xss y) (roR xss y)
def roOk (xss : LL) (y : List Nat) : Bool := ftOk xss y && (finAllM (roR xss y) && finM (roS xss y))

-- FN impl_RestOfFit
def ps_impl_RestOfFit : List Nat := [0, 1, 4, 5, 6, 7, 8, 9, 10, 18, 34]
def b_impl_RestOfFit (gq0 gq1 gq2 gq3 gq4 gq5 : FuncId) : VCode :=
 (.seq
 (.region false [
 ⟨some 4, (.nilsl (.f .f32 [])), [], none⟩,
 ⟨some 5, .mv, [.k (.f .f32 0)], none⟩,
 ⟨some 6, .mv, [.k (.b false)], none⟩])
 (.seq
 (.region false [
 ⟨some 12, .mv, [.t 0], none⟩,
 ⟨some 13, .mv, [.t 1], none⟩,
 ⟨some 14, (.call gq0), [.t 12, .t 13], none⟩,
 ⟨some 11, .mv, [.t 14], none⟩,
 ⟨some 15, (.extract 0), [.t 11], none⟩,
 ⟨some 16, (.extract 1), [.t 11], none⟩,
 ⟨some 7, .mv, [.t 15], none⟩,
 ⟨some 8, .mv, [.t 16], none⟩])
 (.seq
 (.seq
 (.region false [
 ⟨some 17, .mv, [.t 8], none⟩,
 ⟨some 18, .not, [.t 17], none⟩])
 (.cond (.t 18)
 (.seq
 (.region false [
 ⟨some 4, (.nilsl (.f .f32 [])), [], none⟩,
 ⟨some 5, .mv, [.k (.f .f32 0)], none⟩,
 ⟨some 6, .mv, [.k (.b false)], none⟩])
 .ret)
 .skip))
 (.seq
 (.region false [
 ⟨some 19, .mv, [.t 1], none⟩,
 ⟨some 20, .mv, [.t 0], none⟩,
 ⟨some 21, .mv, [.t 7], none⟩,
 ⟨some 22, (.call gq1), [.t 20, .t 21], none⟩,
 ⟨some 23, (.call gq2), [.t 19, .t 22], none⟩,
 ⟨some 9, .mv, [.t 23], none⟩])
 (.seq
 (.region false [
 ⟨some 24, .mv, [.t 9], none⟩,
 ⟨some 25, .mv, [.t 9], none⟩,
 ⟨some 26, (.call gq3), [.t 24, .t 25], none⟩,
 ⟨some 10, .mv, [.t 26], none⟩])
 (.seq
 (.seq
 (.region false [
 ⟨some 27, .mv, [.t 9], none⟩,
 ⟨some 28, (.call gq4), [.t 27], none⟩,
 ⟨some 29, .not, [.t 28], none⟩,
 ⟨some 30, .mv, [.t 29], none⟩,
 ⟨some 31, .mv, [.t 10], some (30, false)⟩,
 ⟨some 32, (.call gq5), [.t 31], some (30, false)⟩,
 ⟨some 33, .not, [.t 32], some (30, false)⟩,
 ⟨some 34, .pick, [.t 30, .k (.b true), .t 33], none⟩])
 (.cond (.t 34)
 (.seq
 (.region false [
 ⟨some 4, (.nilsl (.f .f32 [])), [], none⟩,
 ⟨some 5, .mv, [.k (.f .f32 0)], none⟩,
 ⟨some 6, .mv, [.k (.b false)], none⟩])
 .ret)
 .skip))
 (.seq
 (.region false [
 ⟨some 35, .mv, [.t 9], none⟩,
 ⟨some 36, .mv, [.t 10], none⟩,
 ⟨some 4, .mv, [.t 35], none⟩,
 ⟨some 5, .mv, [.t 36], none⟩,
 ⟨some 6, .mv, [.k (.b true)], none⟩])
 .ret)))))))

abbrev Is_impl_RestOfFit (P : Program) (g_f : FuncId) (gq0 gq1 gq2 gq3 gq4 gq5 : FuncId) : Prop := FnIs P g_f 37 [.t 4, .t 5, .t 6] (b_impl_RestOfFit gq0 gq1 gq2 gq3 gq4 gq5)

abbrev C_impl_RestOfFit (P : Program) (g_f : FuncId) : Prop := ∀ (xss : LL) (y : List Nat) (hx : xss.length ≤ maxLen) (hr : ∀ r ∈ xss, r.length ≤ maxLen) (hy : y.length ≤ maxLen), VCall P g_f [PF [0] xss, PS [1] .f32 y] (.tup [OS 0 .f32 (if roOk xss y = true then roR xss y else []), .f .f32 (if roOk xss y = true then roS xss y else 0), .b (roOk xss y)])
def oc_impl_RestOfFit (xss : LL) (y : List Nat) (d : Nat) (as : List AV) : T AV := match d with | 14 => .ite (ftOk xss y) (.leaf (.tup [OS 0 .f32 (ftT xss y), .b true])) (.leaf (.tup [OS 0 .f32 [], .b false])) | 22 => oc1_impl_fitted as | 23 => oc1_impl_less as | 26 => oc1_impl_dot as | 28 => oc1_impl_areFinite as | 32 => oc1_impl_IsFinite as | _ => .fail



theorem q_impl_RestOfFit {P : Program} {g_f : FuncId} {gq0 gq1 gq2 gq3 gq4 gq5 : FuncId} (h_ : Is_impl_RestOfFit P g_f gq0 gq1 gq2 gq3 gq4 gq5) (xss : LL) (y : List Nat) (ht : T.ok (fun x_ => x_ = .tup [OS 0 .f32 (if roOk xss y = true then roR xss y else []), .f .f32 (if roOk xss y = true then roS xss y else 0), .b (roOk xss y)]) (
 T.ite (ftOk xss y)
 (T.ob ((VCall P) gq0 [AV.sl (Tag.par [0]) 0 (Cont.ff .f32 xss), AV.sl (Tag.par [1]) 0 (Cont.f .f32 y)] (AV.tup [AV.sl (Tag.own 0) 0 (Cont.f .f32 (ftT xss y)), AV.b true]))
 (T.ite false (T.leaf (AV.tup [AV.sl (Tag.own 0) 0 (Cont.f .f32 []), AV.f .f32 0, AV.b false]))
 (T.ob ((VCall P) gq1 [AV.sl (Tag.par [0]) 0 (Cont.ff .f32 xss), AV.sl (Tag.par [1]) 0 (Cont.f .f32 (ftT xss y))] (AV.sl (Tag.own 0) 0 (Cont.f .f32 (fitM xss (ftT xss y)))))
 (T.ob
 ((VCall P) gq2 [AV.sl (Tag.par [0]) 0 (Cont.f .f32 y), AV.sl (Tag.par [1]) 0 (Cont.f .f32 (fitM xss (ftT xss y)))]
 (AV.sl (Tag.own 0) 0 (Cont.f .f32 (lessM y (fitM xss (ftT xss y))))))
 (T.ob
 ((VCall P) gq3 [AV.sl (Tag.par [0]) 0 (Cont.f .f32 (lessM y (fitM xss (ftT xss y)))), AV.sl (Tag.par [1]) 0 (Cont.f .f32 (lessM y (fitM xss (ftT xss y))))]
 (AV.f .f32 (dotM (lessM y (fitM xss (ftT xss y))) (lessM y (fitM xss (ftT xss y))))))
 (T.ob ((VCall P) gq4 [AV.sl (Tag.par [0]) 0 (Cont.f .f32 (lessM y (fitM xss (ftT xss y))))] (AV.b (finAllM (lessM y (fitM xss (ftT xss y))))))
 (T.ite (!finAllM (lessM y (fitM xss (ftT xss y)))) (T.leaf (AV.tup [AV.sl (Tag.own 0) 0 (Cont.f .f32 []), AV.f .f32 0, AV.b false]))
 (T.ob
 ((VCall P) gq5 [AV.f .f32 (dotM (lessM y (fitM xss (ftT xss y))) (lessM y (fitM xss (ftT xss y))))] (AV.b (finM (dotM (lessM y (fitM xss (ftT xss y))) (lessM y (fitM xss (ftT xss y)))))))
 (T.ite (!finM (dotM (lessM y (fitM xss (ftT xss y))) (lessM y (fitM xss (ftT xss y))))) (T.leaf (AV.tup [AV.sl (Tag.own 0) 0 (Cont.f .f32 []), AV.f .f32 0, AV.b false]))
 (T.leaf
 (AV.tup
 [AV.sl (Tag.own 0) 0 (Cont.f .f32 (lessM y (fitM xss (ftT xss y)))), AV.f .f32 (dotM (lessM y (fitM xss (ftT xss y))) (lessM y (fitM xss (ftT xss y)))), AV.b true])))))))))))
 (T.ob ((VCall P) gq0 [AV.sl (Tag.par [0]) 0 (Cont.ff .f32 xss), AV.sl (Tag.par [1]) 0 (Cont.f .f32 y)] (AV.tup [AV.sl (Tag.own 0) 0 (Cont.f .f32 []), AV.b false]))
 (T.ite true (T.leaf (AV.tup [AV.sl (Tag.own 0) 0 (Cont.f .f32 []), AV.f .f32 0, AV.b false]))
 (T.ob ((VCall P) gq1 [AV.sl (Tag.par [0]) 0 (Cont.ff .f32 xss), AV.sl (Tag.par [1]) 0 (Cont.f .f32 [])] (AV.sl (Tag.own 0) 0 (Cont.f .f32 (fitM xss []))))
 (T.ob ((VCall P) gq2 [AV.sl (Tag.par [0]) 0 (Cont.f .f32 y), AV.sl (Tag.par [1]) 0 (Cont.f .f32 (fitM xss []))] (AV.sl (Tag.own 0) 0 (Cont.f .f32 (lessM y (fitM xss [])))))
 (T.ob
 ((VCall P) gq3 [AV.sl (Tag.par [0]) 0 (Cont.f .f32 (lessM y (fitM xss []))), AV.sl (Tag.par [1]) 0 (Cont.f .f32 (lessM y (fitM xss [])))]
 (AV.f .f32 (dotM (lessM y (fitM xss [])) (lessM y (fitM xss [])))))
 (T.ob ((VCall P) gq4 [AV.sl (Tag.par [0]) 0 (Cont.f .f32 (lessM y (fitM xss [])))] (AV.b (finAllM (lessM y (fitM xss [])))))
 (T.ite (!finAllM (lessM y (fitM xss []))) (T.leaf (AV.tup [AV.sl (Tag.own 0) 0 (Cont.f .f32 []), AV.f .f32 0, AV.b false]))
 (T.ob ((VCall P) gq5 [AV.f .f32 (dotM (lessM y (fitM xss [])) (lessM y (fitM xss [])))] (AV.b (finM (dotM (lessM y (fitM xss [])) (lessM y (fitM xss []))))))
 (T.ite (!finM (dotM (lessM y (fitM xss [])) (lessM y (fitM xss [])))) (T.leaf (AV.tup [AV.sl (Tag.own 0) 0 (Cont.f .f32 []), AV.f .f32 0, AV.b false]))
 (T.leaf (AV.tup [AV.sl (Tag.own 0) 0 (Cont.f .f32 (lessM y (fitM xss []))), AV.f .f32 (dotM (lessM y (fitM xss [])) (lessM y (fitM xss []))), AV.b true]))))))))))))) :
 VCall P g_f [PF [0] xss, PS [1] .f32 y] (.tup [OS 0 .f32 (if roOk xss y = true then roR xss y else []), .f .f32 (if roOk xss y = true then roS xss y else 0), .b (roOk xss y)]) := h_.call_of ps_impl_RestOfFit ⟨oc_impl_RestOfFit xss y, fun _ _ => none⟩ (by kernel_rfl) ht

-- END impl_RestOfFit


theorem bnot_t : ∀ {b : Bool}, (!b) = true → b = false | false, _ => rfl
theorem bnot_f : ∀ {b : Bool}, (!b) = false → b = true | true, _ => rfl
theorem k_impl_ColumnFit {P : Program} {f g1 g2 g3 : FuncId} (h : Is_impl_ColumnFit P f g1 g2 g3) (c1 : C_impl_IsSeries P g1) (c2 : C_impl_areColumns P g2) (c3 : C_impl_columnFit P g3) : C_impl_ColumnFit P f := by
  intro xss y hx hr hy
  refine q_impl_ColumnFit h xss y ⟨c1 _ hy, fun _ => ⟨fun h1 => ?_, fun h1 => ⟨c2 _ _ hx hr (by omega), fun _ => ?_⟩⟩⟩
  · have h1 : seriesM y = false := by simpa using h1
    simp only [T.ok, ftOut, ftOk, ftC, h1, Bool.false_and, Bool.false_eq_true, if_false]
  · rw [Int.toNat_natCast]
    have h1 : seriesM y = true := by simpa using h1
    refine ⟨fun h2 => ?_, fun h2 => ?_⟩
    · have h2 : colsM xss y.length = false := by simpa using h2
      simp only [T.ok, ftOut, ftOk, ftC, h2, Bool.false_and, Bool.and_false, Bool.false_eq_true, if_false]
    · have h2 : colsM xss y.length = true := by simpa using h2
      obtain ⟨f1, f2, f3⟩ := cols_facts h2
      refine ⟨c3 _ _ f1 (fun i hi => (f2 i hi).2) f3, fun _ => ?_⟩
      simp only [T.ok, ftOut, ftOk, ftC, ftT, h1, h2, Bool.true_and, ifAllM]
      cases cfOk (cfG xss y) xss.length <;> cases finAllM (cfOut (cfG xss y) xss.length) <;> rfl
theorem k_spec_ColumnFit {P : Program} {f g1 g2 g3 : FuncId} (h : Is_spec_ColumnFit P f g1 g2 g3) (c1 : C_spec_l03Columns P g1) (c2 : C_spec_l02Series P g2) (c3 : C_spec_l03Fit P g3) : C_spec_ColumnFit P f := by
  intro xss y hx hr hy
  have hcc : colsM xss y.length = true → colsM xss (xss.getD 0 []).length = true ∧ y.length = (xss.getD 0 []).length := by
    intro hc
    obtain ⟨f1, f2, f3⟩ := cols_facts hc
    have := (f2 0 (by omega)).2
    rw [this]; exact ⟨hc, rfl⟩
  refine q_spec_ColumnFit h xss y ⟨c1 _ hx hr, fun _ => ⟨fun h1 => ?_, fun h1 => ⟨c2 _ hy, fun _ => ⟨fun h2 => ?_, fun h2 => ?_⟩⟩⟩⟩
  · have h1 : colsM xss (xss.getD 0 []).length = false := by simpa only [Bool.not_eq_true'] using h1
    have : colsM xss y.length = false := by
      cases hc : colsM xss y.length with
      | false => rfl
      | true => rw [(hcc hc).1] at h1; cases h1
    simp only [T.ok, ftOut, ftOk, ftC, this, Bool.false_and, Bool.and_false, Bool.false_eq_true, if_false]
  · have h2 : seriesM y = false := by simpa using h2
    simp only [T.ok, ftOut, ftOk, ftC, h2, Bool.false_and, Bool.false_eq_true, if_false]
  · have h1 : colsM xss (xss.getD 0 []).length = true := by simpa only [Bool.not_eq_false'] using h1
    have h2 : seriesM y = true := by simpa using h2
    obtain ⟨f1, f2, f3⟩ := cols_facts h1
    refine ⟨by omega, fun _ => ⟨fun h3 => ?_, fun h3 => ?_⟩⟩
    · have : colsM xss y.length = false := by
        cases hc : colsM xss y.length with
        | false => rfl
        | true => rw [(hcc hc).2] at h3; simp at h3
      simp only [T.ok, ftOut, ftOk, ftC, this, Bool.false_and, Bool.and_false, Bool.false_eq_true, if_false]
    · have h3 : y.length = (xss.getD 0 []).length := by
        have : (y.length : Int) = (xss.getD 0 []).length := by simpa only [bne_eq_false_iff_eq] using h3
        omega
      have hs : ∀ i, i < xss.length → (xss.getD i []).length = y.length := fun i hi => by rw [(f2 i hi).2, h3]
      have h4 : colsM xss y.length = true := by rw [h3]; exact h1
      obtain ⟨e1, e2⟩ := fit_same xss y f1.1 hs
      have c := c3 xss y f1 hs (by omega)
      rw [e1] at c ⊢
      cases ho : cfOk (cfG xss y) xss.length with
      | false =>
        rw [ho] at c
        simp only [Bool.false_eq_true, if_false, Bool.false_and] at c ⊢
        refine ⟨c, fun _ => ⟨fun _ => ?_, fun h => absurd h (by simp)⟩⟩
        simp only [T.ok, ftOut, ftOk, ftC, ho, Bool.false_and, Bool.and_false, Bool.false_eq_true, if_false]
      | true =>
        rw [ho, e2 ho] at c
        rw [e2 ho]
        simp only [if_true, Bool.true_and] at c ⊢
        refine ⟨c, fun _ => ⟨fun h5 => ?_, fun h5 => ?_⟩⟩
        · have h5 : finAllM (ftT xss y) = false := bnot_t h5
          simp only [T.ok, ftOut, ftOk, h5, Bool.and_false, Bool.false_eq_true, if_false]
        · have h5 : finAllM (ftT xss y) = true := bnot_f h5
          simp only [T.ok, ftOut, ftOk, ftC, h2, h4, ho, h5, Bool.and_self, if_true]; rfl

theorem ftOk_facts {xss : LL} {y : List Nat} (h : ftOk xss y = true) : (1 ≤ xss.length ∧ xss.length ≤ 6) ∧ (∀ i, i < xss.length → (xss.getD i []).length = y.length) ∧ y.length ≤ 96 ∧ seriesM y = true ∧ finAllM (ftT xss y) = true ∧ (ftT xss y).length = xss.length ∧ colsM xss y.length = true := by
  unfold ftOk ftC at h
  simp only [Bool.and_eq_true] at h
  obtain ⟨f1, f2, f3⟩ := cols_facts h.1.2.1
  exact ⟨f1, fun i hi => (f2 i hi).2, f3, h.1.1, h.2, bkN_len _ _ _, h.1.2.1⟩
theorem roR_len (xss : LL) (y : List Nat) : (roR xss y).length = y.length := less_len _ _

theorem k_impl_RestOfFit {P : Program} {f g1 g2 g3 g4 g5 g6 : FuncId} (h : Is_impl_RestOfFit P f g1 g2 g3 g4 g5 g6) (c1 : C_impl_ColumnFit P g1) (c2 : C_impl_fitted P g2) (c3 : C_impl_less P g3) (c4 : C_impl_dot P g4) (c5 : C_impl_areFinite P g5) (c6 : C_impl_IsFinite P g6) : C_impl_RestOfFit P f := by
  intro xss y hx hr hy
  have a1 := c1 xss y hx hr hy
  refine q_impl_RestOfFit h xss y ⟨fun h1 => ?_, fun h1 => ?_⟩
  · obtain ⟨f1, f2, f3, f4, f5, f6, f7⟩ := ftOk_facts h1
    unfold ftOut at a1
    rw [h1] at a1
    simp only [if_true] at a1
    have hs : sameL xss := fun i hi => by rw [f2 i hi, f2 0 (by omega)]
    have h0 := f2 0 (by omega)
    have hR := roR_len xss y
    refine ⟨a1, fun _ => ⟨fun h => Bool.noConfusion h, fun _ => ⟨c2 _ _ (by omega) hs (by omega), fun _ => ⟨c3 _ _ (by rw [fit_len]; omega) (by omega), fun _ => ⟨c4 _ _ (Nat.le_refl _) (by show (roR xss y).length ≤ _; rw [hR]; exact hy), fun _ => ⟨c5 _ (by show (roR xss y).length ≤ _; rw [hR]; exact hy), fun _ => ⟨fun h2 => ?_, fun h2 => ⟨c6 _, fun _ => ⟨fun h3 => ?_, fun h3 => ?_⟩⟩⟩⟩⟩⟩⟩⟩⟩
    · have h2 : finAllM (roR xss y) = false := bnot_t h2
      simp only [T.ok, roOk, h2, Bool.false_and, Bool.and_false, Bool.false_eq_true, if_false]
    · have h3 : finM (roS xss y) = false := bnot_t h3
      simp only [T.ok, roOk, h3, Bool.and_false, Bool.false_eq_true, if_false]
    · have h2 : finAllM (roR xss y) = true := bnot_f h2
      have h3 : finM (roS xss y) = true := bnot_f h3
      simp only [T.ok, roOk, h1, h2, h3, Bool.and_self, if_true]; rfl
  · unfold ftOut at a1
    rw [h1] at a1
    simp only [Bool.false_eq_true, if_false] at a1
    refine ⟨a1, fun _ => ⟨fun _ => ?_, fun h => Bool.noConfusion h⟩⟩
    simp only [T.ok, roOk, h1, Bool.false_and, Bool.false_eq_true, if_false]

end Go.Proofs.LV
