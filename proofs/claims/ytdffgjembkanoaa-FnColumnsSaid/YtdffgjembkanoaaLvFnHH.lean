/- Columns: what they are, what is fitted to them. -/
import Derived.Test.YtdffgjembkanoaaLvFnFFX
namespace Go.Proofs.LV
open Go
set_option linter.unusedVariables false
set_option linter.unusedSimpArgs false

def colP (n : Nat) (c : List Nat) : Bool := seriesM c && (c.length == n)
def colsM (xss : LL) (n : Nat) : Bool := decide (1 ≤ xss.length) && (decide (xss.length ≤ 6) && xss.all (colP n))

open Go.IntKind (wrap)
-- FN impl_areColumns_1
def ps_impl_areColumns_1 : List Nat := [0, 1, 3]
def b_impl_areColumns_1 (gq0 : FuncId) : VCode :=
 (.seq
 (.region false [
 ⟨some 3, .mv, [.k (.b false)], none⟩])
 (.seq
 (.region false [
 ⟨some 4, .mv, [.t 0], none⟩,
 ⟨some 5, (.call gq0), [.t 4], none⟩,
 ⟨some 6, .not, [.t 5], none⟩,
 ⟨some 7, .mv, [.t 6], none⟩,
 ⟨some 8, .mv, [.t 0], some (7, false)⟩,
 ⟨some 9, .len, [.t 8], some (7, false)⟩,
 ⟨some 10, .load, [.t 1], some (7, false)⟩,
 ⟨some 11, (.bin .neq), [.t 9, .t 10], some (7, false)⟩,
 ⟨some 12, .pick, [.t 7, .k (.b true), .t 11], none⟩,
 ⟨some 3, .mv, [.t 12], none⟩])
 .ret))

abbrev Is_impl_areColumns_1 (P : Program) (g_f : FuncId) (gq0 : FuncId) : Prop := FnIs P g_f 13 [.t 3] (b_impl_areColumns_1 gq0)

abbrev C_impl_areColumns_1 (P : Program) (g_f : FuncId) : Prop := ∀ (c : List Nat) (n : Int) (hx : c.length ≤ maxLen) (hn : 0 ≤ n), VCall P g_f [PS [0] .f32 c, .bx (.par [1]) [.i .i64 n]] (.b (!colP n.toNat c))
def oc_impl_areColumns_1 (c : List Nat) (n : Int) (d : Nat) (as : List AV) : T AV := match d with | 5 => oc1_impl_IsSeries as | _ => .fail



theorem q_impl_areColumns_1 {P : Program} {g_f : FuncId} {gq0 : FuncId} (h_ : Is_impl_areColumns_1 P g_f gq0) (c : List Nat) (n : Int) (ht : T.ok (fun x_ => x_ = .b (!colP n.toNat c)) (
 T.ob ((VCall P) gq0 [AV.sl (Tag.par [0]) 0 (Cont.f .f32 c)] (AV.b (seriesM c))) (T.ite (!seriesM c) (T.leaf (AV.b true)) (T.leaf (AV.b ((↑(List.length c) : Int) != n)))))) :
 VCall P g_f [PS [0] .f32 c, .bx (.par [1]) [.i .i64 n]] (.b (!colP n.toNat c)) := h_.call_of ps_impl_areColumns_1 ⟨oc_impl_areColumns_1 c n, fun _ _ => none⟩ (by kernel_rfl) ht

-- END impl_areColumns_1

-- FN slices_IndexFunc_____float32___float32_
def ps_slices_IndexFunc_____float32___float32_ : List Nat := [0, 1, 4, 5, 7, 8, 9, 16]
def lv_slices_IndexFunc_____float32___float32__L0 : List Nat := [0, 1, 7, 8]
def b_slices_IndexFunc_____float32___float32__L0 : VCode :=
 (.seq
 (.region false [
 ⟨some 9, (.bin .lss), [.t 8, .t 7], none⟩])
 (.seq
 (.cond (.t 9)
 .skip
 (.exit 0))
 (.seq
 (.block 1
 (.seq
 (.region false [
 ⟨some 10, .mv, [.t 8], none⟩,
 ⟨some 5, .mv, [.t 10], none⟩])
 (.seq
 (.region false [
 ⟨some 11, .mv, [.t 1], none⟩,
 ⟨some 12, .mv, [.t 0], none⟩,
 ⟨some 13, .mv, [.t 5], none⟩,
 ⟨some 14, .iaddr, [.t 12, .t 13], none⟩,
 ⟨some 15, .load, [.t 14], none⟩,
 ⟨some 16, .callv, [.t 11, .t 15], none⟩])
 (.cond (.t 16)
 (.seq
 (.region false [
 ⟨some 17, .mv, [.t 5], none⟩,
 ⟨some 4, .mv, [.t 17], none⟩])
 .ret)
 .skip))))
 (.region false [
 ⟨some 18, (.bin .add), [.t 8, .k (.i .i64 1)], none⟩,
 ⟨some 8, .mv, [.t 18], none⟩]))))

def b_slices_IndexFunc_____float32___float32_ : VCode :=
 (.seq
 (.region false [
 ⟨some 4, .mv, [.k (.i .i64 0)], none⟩])
 (.seq
 (.seq
 (.region false [
 ⟨some 6, .mv, [.t 0], none⟩,
 ⟨some 7, .len, [.t 6], none⟩,
 ⟨some 8, .mv, [.k (.i .i64 0)], none⟩])
 (.block 0 (.loop b_slices_IndexFunc_____float32___float32__L0)))
 (.seq
 (.region false [
 ⟨some 4, .mv, [.k (.i .i64 (-1))], none⟩])
 .ret)))

abbrev Is_slices_IndexFunc_____float32___float32_ (P : Program) (g_f : FuncId) : Prop := FnIs P g_f 19 [.t 4] (b_slices_IndexFunc_____float32___float32_)

abbrev C_slices_IndexFunc_____float32___float32_ (P : Program) (g_f : FuncId) : Prop := ∀ (xs : LL) (F : FuncId) (n : Int) (p : List Nat → Bool) (hF : ∀ x, x ∈ xs → VCall P F [PS [0] .f32 x, .bx (.par [1]) [.i .i64 n]] (.b (p x))) (hx : xs.length ≤ maxLen), VCall P g_f [PF [0] xs, .fn F [.bx (.par [1, 0]) [.i .i64 n]]] (.i .i64 (idxM p xs))
def oc_slices_IndexFunc_____float32___float32_ (xs : LL) (F : FuncId) (n : Int) (p : List Nat → Bool) (d : Nat) (as : List AV) : T AV := match d with | 16 => (match as with | [.sl _ _ (.f _ x), _] => .leaf (.b (p x)) | _ => .fail) | _ => .fail
def h_slices_IndexFunc_____float32___float32__L0 (xs : LL) (F : FuncId) (n : Int) (p : List Nat → Bool) (v8 : Int) : Env := [AV.sl (Tag.par [0]) 0 (Cont.ff .f32 xs), AV.fn F [AV.bx (Tag.par [1, 0]) [AV.i .i64 n]]] ++ anys 5 ++ [AV.i .i64 (↑(List.length xs) : Int), .i .i64 v8] ++ anys 10

theorem q_slices_IndexFunc_____float32___float32__L0 {VC : FuncId → List AV → AV → Prop} (xs : LL) (F : FuncId) (n : Int) (p : List Nat → Bool) (v8 : Int) {e_ : Ex} {σ_ : Env} (ht : T.ok (fun x_ => x_ = (e_, σ_)) (
 T.ite (decide (v8 < (↑(List.length xs) : Int)))
 (T.ob (0 ≤ v8 ∧ v8 < (↑(List.length xs) : Int))
 (T.ob (VC F [AV.sl (Tag.par [0]) 0 (Cont.f .f32 (List.getD xs (Int.toNat v8) [])), AV.bx (Tag.par [1]) [AV.i .i64 n]] (AV.b (p (List.getD xs (Int.toNat v8) []))))
 (T.ite (p (List.getD xs (Int.toNat v8) [])) (T.leaf (Ex.ret, anys 4 ++ AV.i .i64 v8 :: anys 14))
 (T.leaf (Ex.normal, h_slices_IndexFunc_____float32___float32__L0 xs F n p (wrap .i64 (v8 + 1)))))))
 (T.leaf (Ex.exit 0, h_slices_IndexFunc_____float32___float32__L0 xs F n p v8)))) :
 Exec VC ps_slices_IndexFunc_____float32___float32_ (b_slices_IndexFunc_____float32___float32__L0) (h_slices_IndexFunc_____float32___float32__L0 xs F n p v8) e_ σ_ := evL_of (lv := lv_slices_IndexFunc_____float32___float32__L0) (rs := [4]) (O := ⟨oc_slices_IndexFunc_____float32___float32_ xs F n p, fun _ _ => none⟩) (by kernel_rfl) ht

theorem q_slices_IndexFunc_____float32___float32_ {P : Program} {g_f : FuncId} (h_ : Is_slices_IndexFunc_____float32___float32_ P g_f) (xs : LL) (F : FuncId) (n : Int) (p : List Nat → Bool) (ht : T.ok (fun x_ => x_ = .i .i64 (idxM p xs)) (
 T.ite (decide (List.findIdx p xs < List.length xs))
 (T.ob
 (Exec (VCall P) ps_slices_IndexFunc_____float32___float32_ (VCode.block 0 (VCode.loop b_slices_IndexFunc_____float32___float32__L0)) (h_slices_IndexFunc_____float32___float32__L0 xs F n p 0) Ex.ret
 (anys 4 ++ AV.i .i64 (↑(List.findIdx p xs) : Int) :: anys 14))
 (T.leaf (AV.i .i64 (↑(List.findIdx p xs) : Int))))
 (T.ob
 (Exec (VCall P) ps_slices_IndexFunc_____float32___float32_ (VCode.block 0 (VCode.loop b_slices_IndexFunc_____float32___float32__L0)) (h_slices_IndexFunc_____float32___float32__L0 xs F n p 0) Ex.normal
 (h_slices_IndexFunc_____float32___float32__L0 xs F n p (↑(List.length xs) : Int)))
 (T.leaf (AV.i .i64 (-1)))))) :
 VCall P g_f [PF [0] xs, .fn F [.bx (.par [1, 0]) [.i .i64 n]]] (.i .i64 (idxM p xs)) := h_.call_of ps_slices_IndexFunc_____float32___float32_ ⟨oc_slices_IndexFunc_____float32___float32_ xs F n p, fun id σ => match id with | 0 => some (lv_slices_IndexFunc_____float32___float32__L0, .ite (decide (xs.findIdx p < xs.length)) (.leaf (.ret, ret1 19 4 (.i .i64 (xs.findIdx p)))) (.leaf (.normal, h_slices_IndexFunc_____float32___float32__L0 xs F n p xs.length))) | _ => none⟩ (by kernel_rfl) ht

-- END slices_IndexFunc_____float32___float32_

-- FN slices_ContainsFunc_____float32___float32_
def ps_slices_ContainsFunc_____float32___float32_ : List Nat := [0, 1, 4]
def b_slices_ContainsFunc_____float32___float32_ (gq0 : FuncId) : VCode :=
 (.seq
 (.region false [
 ⟨some 4, .mv, [.k (.b false)], none⟩])
 (.seq
 (.region false [
 ⟨some 5, .mv, [.t 0], none⟩,
 ⟨some 6, .mv, [.t 1], none⟩,
 ⟨some 7, (.call gq0), [.t 5, .t 6], none⟩,
 ⟨some 8, (.bin .geq), [.t 7, .k (.i .i64 0)], none⟩,
 ⟨some 4, .mv, [.t 8], none⟩])
 .ret))

abbrev Is_slices_ContainsFunc_____float32___float32_ (P : Program) (g_f : FuncId) (gq0 : FuncId) : Prop := FnIs P g_f 9 [.t 4] (b_slices_ContainsFunc_____float32___float32_ gq0)

abbrev C_slices_ContainsFunc_____float32___float32_ (P : Program) (g_f : FuncId) : Prop := ∀ (xs : LL) (F : FuncId) (n : Int) (p : List Nat → Bool) (hF : ∀ x, x ∈ xs → VCall P F [PS [0] .f32 x, .bx (.par [1]) [.i .i64 n]] (.b (p x))) (hx : xs.length ≤ maxLen), VCall P g_f [PF [0] xs, .fn F [.bx (.par [1, 0]) [.i .i64 n]]] (.b (xs.any p))
def oc_slices_ContainsFunc_____float32___float32_ (xs : LL) (F : FuncId) (n : Int) (p : List Nat → Bool) (d : Nat) (as : List AV) : T AV := match d with | 7 => .leaf (.i .i64 (idxM p xs)) | _ => .fail



theorem q_slices_ContainsFunc_____float32___float32_ {P : Program} {g_f : FuncId} {gq0 : FuncId} (h_ : Is_slices_ContainsFunc_____float32___float32_ P g_f gq0) (xs : LL) (F : FuncId) (n : Int) (p : List Nat → Bool) (ht : T.ok (fun x_ => x_ = .b (xs.any p)) (
 T.ob ((VCall P) gq0 [AV.sl (Tag.par [0]) 0 (Cont.ff .f32 xs), AV.fn F [AV.bx (Tag.par [1, 0]) [AV.i .i64 n]]] (AV.i .i64 (idxM p xs)))
 (T.leaf (AV.b (decide (idxM p xs ≥ 0)))))) :
 VCall P g_f [PF [0] xs, .fn F [.bx (.par [1, 0]) [.i .i64 n]]] (.b (xs.any p)) := h_.call_of ps_slices_ContainsFunc_____float32___float32_ ⟨oc_slices_ContainsFunc_____float32___float32_ xs F n p, fun _ _ => none⟩ (by kernel_rfl) ht

-- END slices_ContainsFunc_____float32___float32_

-- FN impl_areColumns
def ps_impl_areColumns : List Nat := [0, 1, 3, 4]
def b_impl_areColumns (gq1 gq0 : FuncId) : VCode :=
 (.seq
 (.region false [
 ⟨some 3, .box, [.t 1], none⟩,
 ⟨some 4, .mv, [.k (.b false)], none⟩])
 (.seq
 (.region false [
 ⟨some 5, .mv, [.t 0], none⟩,
 ⟨some 6, .len, [.t 5], none⟩,
 ⟨some 7, (.bin .geq), [.t 6, .k (.i .i64 1)], none⟩,
 ⟨some 8, .mv, [.t 7], none⟩,
 ⟨some 9, .mv, [.t 0], some (8, true)⟩,
 ⟨some 10, .len, [.t 9], some (8, true)⟩,
 ⟨some 11, (.bin .leq), [.t 10, .k (.i .i64 6)], some (8, true)⟩,
 ⟨some 12, .pick, [.t 8, .t 11, .k (.b false)], none⟩,
 ⟨some 13, .mv, [.t 12], none⟩,
 ⟨some 14, .mv, [.t 0], some (13, true)⟩,
 ⟨some 15, (.mkfn gq1), [.t 3], some (13, true)⟩,
 ⟨some 16, (.call gq0), [.t 14, .t 15], some (13, true)⟩,
 ⟨some 17, .not, [.t 16], some (13, true)⟩,
 ⟨some 18, .pick, [.t 13, .t 17, .k (.b false)], none⟩,
 ⟨some 4, .mv, [.t 18], none⟩])
 .ret))

abbrev Is_impl_areColumns (P : Program) (g_f : FuncId) (gq1 gq0 : FuncId) : Prop := FnIs P g_f 19 [.t 4] (b_impl_areColumns gq1 gq0)

abbrev C_impl_areColumns (P : Program) (g_f : FuncId) : Prop := ∀ (xss : LL) (n : Int) (hx : xss.length ≤ maxLen) (hr : ∀ r ∈ xss, r.length ≤ maxLen) (hn : 0 ≤ n), VCall P g_f [PF [0] xss, .i .i64 n] (.b (colsM xss n.toNat))
def oc1_impl_areColumns (as : List AV) : T AV := match as with | [.sl _ _ (.ff _ xss), .i .i64 n] => .leaf (.b (colsM xss n.toNat)) | _ => .fail
def oc_impl_areColumns (xss : LL) (n : Int) (d : Nat) (as : List AV) : T AV := match d with | 16 => .leaf (.b (xss.any fun c => !colP n.toNat c)) | _ => .fail



theorem q_impl_areColumns {P : Program} {g_f : FuncId} {gq1 gq0 : FuncId} (h_ : Is_impl_areColumns P g_f gq1 gq0) (xss : LL) (n : Int) (ht : T.ok (fun x_ => x_ = .b (colsM xss n.toNat)) (
 T.ob (false = false)
 (T.ite (decide ((↑(List.length xss) : Int) ≥ 1))
 (T.ite (decide ((↑(List.length xss) : Int) ≤ 6))
 (T.ob
 ((VCall P) gq0 [AV.sl (Tag.par [0]) 0 (Cont.ff .f32 xss), AV.fn gq1 [AV.bx (Tag.par [1, 0]) [AV.i .i64 n]]]
 (AV.b (List.any xss fun (c : List Nat) => !colP (Int.toNat n) c)))
 (T.leaf (AV.b !List.any xss fun (c : List Nat) => !colP (Int.toNat n) c)))
 (T.leaf (AV.b false)))
 (T.leaf (AV.b false))))) :
 VCall P g_f [PF [0] xss, .i .i64 n] (.b (colsM xss n.toNat)) := h_.call_of ps_impl_areColumns ⟨oc_impl_areColumns xss n, fun _ _ => none⟩ (by kernel_rfl) ht

-- END impl_areColumns

-- FN spec_l03Columns
def ps_spec_l03Columns : List Nat := [0, 2, 3, 11, 13, 14, 15, 34]
def lv_spec_l03Columns_L0 : List Nat := [0, 13, 14]
def b_spec_l03Columns_L0 (gq0 : FuncId) : VCode :=
 (.seq
 (.region false [
 ⟨some 15, (.bin .lss), [.t 14, .t 13], none⟩])
 (.seq
 (.cond (.t 15)
 .skip
 (.exit 0))
 (.seq
 (.block 1
 (.seq
 (.region false [
 ⟨some 16, .mv, [.t 14], none⟩,
 ⟨some 3, .mv, [.t 16], none⟩])
 (.seq
 (.region true [
 ⟨some 17, .mv, [.t 0], none⟩,
 ⟨some 18, .mv, [.t 3], none⟩,
 ⟨some 19, .iaddr, [.t 17, .t 18], none⟩,
 ⟨some 20, .load, [.t 19], none⟩,
 ⟨some 21, (.call gq0), [.t 20], none⟩,
 ⟨some 22, .not, [.t 21], none⟩,
 ⟨some 23, .mv, [.t 22], none⟩,
 ⟨some 24, .mv, [.t 0], some (23, false)⟩,
 ⟨some 25, .mv, [.t 3], some (23, false)⟩,
 ⟨some 26, .iaddr, [.t 24, .t 25], some (23, false)⟩,
 ⟨some 27, .load, [.t 26], some (23, false)⟩,
 ⟨some 28, .len, [.t 27], some (23, false)⟩,
 ⟨some 29, .mv, [.t 0], some (23, false)⟩,
 ⟨some 30, .iaddr, [.t 29, .k (.i .i64 0)], some (23, false)⟩,
 ⟨some 31, .load, [.t 30], some (23, false)⟩,
 ⟨some 32, .len, [.t 31], some (23, false)⟩,
 ⟨some 33, (.bin .neq), [.t 28, .t 32], some (23, false)⟩,
 ⟨some 34, .pick, [.t 23, .k (.b true), .t 33], none⟩])
 (.cond (.t 34)
 (.seq
 (.region false [
 ⟨some 2, .mv, [.k (.b false)], none⟩])
 .ret)
 .skip))))
 (.region false [
 ⟨some 35, (.bin .add), [.t 14, .k (.i .i64 1)], none⟩,
 ⟨some 14, .mv, [.t 35], none⟩]))))

def b_spec_l03Columns (gq0 : FuncId) : VCode :=
 (.seq
 (.region false [
 ⟨some 2, .mv, [.k (.b false)], none⟩])
 (.seq
 (.seq
 (.region false [
 ⟨some 4, .mv, [.t 0], none⟩,
 ⟨some 5, .len, [.t 4], none⟩,
 ⟨some 6, (.bin .lss), [.t 5, .k (.i .i64 1)], none⟩,
 ⟨some 7, .mv, [.t 6], none⟩,
 ⟨some 8, .mv, [.t 0], some (7, false)⟩,
 ⟨some 9, .len, [.t 8], some (7, false)⟩,
 ⟨some 10, (.bin .gtr), [.t 9, .k (.i .i64 6)], some (7, false)⟩,
 ⟨some 11, .pick, [.t 7, .k (.b true), .t 10], none⟩])
 (.cond (.t 11)
 (.seq
 (.region false [
 ⟨some 2, .mv, [.k (.b false)], none⟩])
 .ret)
 .skip))
 (.seq
 (.seq
 (.region false [
 ⟨some 12, .mv, [.t 0], none⟩,
 ⟨some 13, .len, [.t 12], none⟩,
 ⟨some 14, .mv, [.k (.i .i64 0)], none⟩])
 (.block 0 (.loop (b_spec_l03Columns_L0 gq0))))
 (.seq
 (.region false [
 ⟨some 2, .mv, [.k (.b true)], none⟩])
 .ret))))

abbrev Is_spec_l03Columns (P : Program) (g_f : FuncId) (gq0 : FuncId) : Prop := FnIs P g_f 36 [.t 2] (b_spec_l03Columns gq0)

abbrev C_spec_l03Columns (P : Program) (g_f : FuncId) : Prop := ∀ (xss : LL) (hx : xss.length ≤ maxLen) (hr : ∀ r ∈ xss, r.length ≤ maxLen), VCall P g_f [PF [0] xss] (.b (colsM xss (xss.getD 0 []).length))
def oc1_spec_l03Columns (as : List AV) : T AV := match as with | [.sl _ _ (.ff _ xss)] => .leaf (.b (colsM xss (xss.getD 0 []).length)) | _ => .fail
def oc_spec_l03Columns (xss : LL) (d : Nat) (as : List AV) : T AV := match d with | 21 => oc1_spec_l02Series as | _ => .fail
def h_spec_l03Columns_L0 (xss : LL) (v14 : Int) : Env := [AV.sl (Tag.par [0]) 0 (Cont.ff .f32 xss)] ++ anys 12 ++ [AV.i .i64 (↑(List.length xss) : Int), .i .i64 v14] ++ anys 21

theorem q_spec_l03Columns_L0 {VC : FuncId → List AV → AV → Prop} {gq0 : FuncId} (xss : LL) (v14 : Int) {e_ : Ex} {σ_ : Env} (ht : T.ok (fun x_ => x_ = (e_, σ_)) (
 T.ite (decide (v14 < (↑(List.length xss) : Int)))
 (T.ob (0 ≤ v14 ∧ v14 < (↑(List.length xss) : Int))
 (T.ob (VC gq0 [AV.sl (Tag.par [0]) 0 (Cont.f .f32 (List.getD xss (Int.toNat v14) []))] (AV.b (seriesM (List.getD xss (Int.toNat v14) []))))
 (T.ite (!seriesM (List.getD xss (Int.toNat v14) [])) (T.leaf (Ex.ret, AV.any :: AV.any :: AV.b false :: anys 33))
 (T.ob (0 ≤ v14 ∧ v14 < (↑(List.length xss) : Int))
 (T.ob ((0 : Int) ≤ 0 ∧ 0 < (↑(List.length xss) : Int))
 (T.ite ((↑(List.length (List.getD xss (Int.toNat v14) [])) : Int) != (↑(List.length (List.getD xss 0 [])) : Int)) (T.leaf (Ex.ret, AV.any :: AV.any :: AV.b false :: anys 33))
 (T.leaf (Ex.normal, h_spec_l03Columns_L0 xss (wrap .i64 (v14 + 1))))))))))
 (T.leaf (Ex.exit 0, h_spec_l03Columns_L0 xss v14)))) :
 Exec VC ps_spec_l03Columns (b_spec_l03Columns_L0 gq0) (h_spec_l03Columns_L0 xss v14) e_ σ_ := evL_of (lv := lv_spec_l03Columns_L0) (rs := [2]) (O := ⟨oc_spec_l03Columns xss, fun _ _ => none⟩) (by kernel_rfl) ht

theorem q_spec_l03Columns {P : Program} {g_f : FuncId} {gq0 : FuncId} (h_ : Is_spec_l03Columns P g_f gq0) (xss : LL) (ht : T.ok (fun x_ => x_ = .b (colsM xss (xss.getD 0 []).length)) (
 T.ite (decide ((↑(List.length xss) : Int) < 1)) (T.leaf (AV.b false))
 (T.ite (decide ((↑(List.length xss) : Int) > 6)) (T.leaf (AV.b false))
 (T.ite (allN (List.length xss) fun (i : Nat) => colP (List.length (List.getD xss 0 [])) (List.getD xss i []))
 (T.ob (Exec (VCall P) ps_spec_l03Columns (VCode.block 0 (VCode.loop (b_spec_l03Columns_L0 gq0))) (h_spec_l03Columns_L0 xss 0) Ex.normal (h_spec_l03Columns_L0 xss (↑(List.length xss) : Int)))
 (T.leaf (AV.b true)))
 (T.ob (Exec (VCall P) ps_spec_l03Columns (VCode.block 0 (VCode.loop (b_spec_l03Columns_L0 gq0))) (h_spec_l03Columns_L0 xss 0) Ex.ret (AV.any :: AV.any :: AV.b false :: anys 33)) (T.leaf (AV.b false))))))) :
 VCall P g_f [PF [0] xss] (.b (colsM xss (xss.getD 0 []).length)) := h_.call_of ps_spec_l03Columns ⟨oc_spec_l03Columns xss, fun id σ => match id with | 0 => some (lv_spec_l03Columns_L0, .ite (allN xss.length fun i => colP (xss.getD 0 []).length (xss.getD i [])) (.leaf (.normal, h_spec_l03Columns_L0 xss xss.length)) (.leaf (.ret, ret1 36 2 (.b false)))) | _ => none⟩ (by kernel_rfl) ht

-- END spec_l03Columns

/-- the sum at a place, of the first k columns -/
def fitAt (xss : LL) (ts : List Nat) (k j : Nat) : Nat := accN (fun i s => fadd .f32 s (fmul .f32 ((xss.getD i []).getD j 0) (ts.getD i 0))) k 0
def fitM (xss : LL) (ts : List Nat) : List Nat := tab (xss.getD 0 []).length (fitAt xss ts xss.length)
def fitOk (xss : LL) (ts : List Nat) : Bool := colsM xss (xss.getD 0 []).length && (ts.length == xss.length && finAllM ts)
/-- columns that are as long -/
def sameL (xss : LL) : Prop := ∀ i, i < xss.length → (xss.getD i []).length = (xss.getD 0 []).length

-- FN impl_fitted
def ps_impl_fitted : List Nat := [0, 1, 4, 5, 6, 7, 8, 9, 15, 16, 17, 18, 22, 23, 24, 25]
def lv_impl_fitted_L0 : List Nat := [1, 5, 15, 16, 17]
def lv_impl_fitted_L2 : List Nat := [1, 5, 6, 15, 16, 17, 22, 23, 24]
def b_impl_fitted_L2 : VCode :=
 (.seq
 (.region false [
 ⟨some 25, (.bin .lss), [.t 24, .t 23], none⟩])
 (.seq
 (.cond (.t 25)
 .skip
 (.exit 2))
 (.seq
 (.block 3
 (.seq
 (.region false [
 ⟨some 26, .mv, [.t 24], none⟩,
 ⟨some 27, .iaddr, [.t 22, .t 24], none⟩,
 ⟨some 28, .load, [.t 27], none⟩,
 ⟨some 8, .mv, [.t 26], none⟩,
 ⟨some 9, .mv, [.t 28], none⟩])
 (.region true [
 ⟨some 29, .mv, [.t 5], none⟩,
 ⟨some 30, .mv, [.t 8], none⟩,
 ⟨some 31, .mv, [.t 5], none⟩,
 ⟨some 32, .mv, [.t 8], none⟩,
 ⟨some 33, .iaddr, [.t 31, .t 32], none⟩,
 ⟨some 34, .load, [.t 33], none⟩,
 ⟨some 35, .mv, [.t 9], none⟩,
 ⟨some 36, .mv, [.t 1], none⟩,
 ⟨some 37, .mv, [.t 6], none⟩,
 ⟨some 38, .iaddr, [.t 36, .t 37], none⟩,
 ⟨some 39, .load, [.t 38], none⟩,
 ⟨some 40, (.bin .mul), [.t 35, .t 39], none⟩,
 ⟨some 41, (.bin .add), [.t 34, .t 40], none⟩,
 ⟨some 42, .iaddr, [.t 29, .t 30], none⟩,
 ⟨none, .store, [.t 42, .t 41], none⟩])))
 (.region false [
 ⟨some 43, (.bin .add), [.t 24, .k (.i .i64 1)], none⟩,
 ⟨some 24, .mv, [.t 43], none⟩]))))

def b_impl_fitted_L0 : VCode :=
 (.seq
 (.region false [
 ⟨some 18, (.bin .lss), [.t 17, .t 16], none⟩])
 (.seq
 (.cond (.t 18)
 .skip
 (.exit 0))
 (.seq
 (.block 1
 (.seq
 (.region false [
 ⟨some 19, .mv, [.t 17], none⟩,
 ⟨some 20, .iaddr, [.t 15, .t 17], none⟩,
 ⟨some 21, .load, [.t 20], none⟩,
 ⟨some 6, .mv, [.t 19], none⟩,
 ⟨some 7, .mv, [.t 21], none⟩])
 (.seq
 (.region false [
 ⟨some 22, .mv, [.t 7], none⟩,
 ⟨some 23, .len, [.t 22], none⟩,
 ⟨some 24, .mv, [.k (.i .i64 0)], none⟩])
 (.block 2 (.loop b_impl_fitted_L2)))))
 (.region false [
 ⟨some 44, (.bin .add), [.t 17, .k (.i .i64 1)], none⟩,
 ⟨some 17, .mv, [.t 44], none⟩]))))

def b_impl_fitted : VCode :=
 (.seq
 (.region false [
 ⟨some 4, (.nilsl (.f .f32 [])), [], none⟩])
 (.seq
 (.region false [
 ⟨some 10, .mv, [.t 0], none⟩,
 ⟨some 11, .iaddr, [.t 10, .k (.i .i64 0)], none⟩,
 ⟨some 12, .load, [.t 11], none⟩,
 ⟨some 13, .len, [.t 12], none⟩,
 ⟨some 14, (.mksl (.f .f32 0)), [.t 13, .t 13], none⟩,
 ⟨some 5, .mv, [.t 14], none⟩])
 (.seq
 (.seq
 (.region false [
 ⟨some 15, .mv, [.t 0], none⟩,
 ⟨some 16, .len, [.t 15], none⟩,
 ⟨some 17, .mv, [.k (.i .i64 0)], none⟩])
 (.block 0 (.loop b_impl_fitted_L0)))
 (.seq
 (.region false [
 ⟨some 45, .mv, [.t 5], none⟩,
 ⟨some 4, .mv, [.t 45], none⟩])
 .ret))))

abbrev Is_impl_fitted (P : Program) (g_f : FuncId) : Prop := FnIs P g_f 46 [.t 4] (b_impl_fitted)

abbrev C_impl_fitted (P : Program) (g_f : FuncId) : Prop := ∀ (xss : LL) (ts : List Nat) (h1 : 1 ≤ xss.length ∧ xss.length ≤ 1000 ∧ xss.length ≤ ts.length) (hs : sameL xss) (hn : (xss.getD 0 []).length ≤ 4294967296), VCall P g_f [PF [0] xss, PS [1] .f32 ts] (OS 0 .f32 (fitM xss ts))
def oc1_impl_fitted (as : List AV) : T AV := match as with | [.sl _ _ (.ff _ xss), .sl _ _ (.f .f32 ts)] => .leaf (OS 0 .f32 (fitM xss ts)) | _ => .fail
def h_impl_fitted_L0 (xss : LL) (ts : List Nat) (out : List Nat) (v17 : Int) : Env := [.any, AV.sl (Tag.par [1]) 0 (Cont.f .f32 ts), .any, .any, .any, .sl (Tag.own 112) 0 (.f .f32 out)] ++ anys 9 ++ [AV.sl (Tag.par [0]) 0 (Cont.ff .f32 xss), AV.i .i64 (↑(List.length xss) : Int), .i .i64 v17] ++ anys 28
def h_impl_fitted_L2 (xss : LL) (ts : List Nat) (out : List Nat) (v17 : Int) (out2 : List Nat) (v24 : Int) : Env := [.any, AV.sl (Tag.par [1]) 0 (Cont.f .f32 ts), .any, .any, .any, .sl (Tag.own 112) 0 (.f .f32 out2), AV.i .i64 v17] ++ anys 8 ++ [AV.sl (Tag.par [0]) 0 (Cont.ff .f32 xss), AV.i .i64 (↑(List.length xss) : Int), AV.i .i64 v17] ++ anys 4 ++ [AV.sl Tag.imm 0 (Cont.f .f32 (List.getD xss (Int.toNat v17) [])), AV.i .i64 (↑(List.length (List.getD xss (Int.toNat v17) [])) : Int), .i .i64 v24] ++ anys 21

theorem q_impl_fitted_L0 {VC : FuncId → List AV → AV → Prop} (xss : LL) (ts : List Nat) (out : List Nat) (v17 : Int) {e_ : Ex} {σ_ : Env} (ht : T.ok (fun x_ => x_ = (e_, σ_)) (
 T.ite (decide (v17 < (↑(List.length xss) : Int)))
 (T.ob (0 ≤ v17 ∧ v17 < (↑(List.length xss) : Int))
 (T.ob
 (Exec VC ps_impl_fitted (VCode.block 2 (VCode.loop b_impl_fitted_L2)) (h_impl_fitted_L2 xss ts out v17 out 0) Ex.normal
 (h_impl_fitted_L2 xss ts out v17 (tab (List.length (List.getD xss 0 [])) (fitAt xss ts (Int.toNat v17 + 1))) (↑(List.length (List.getD xss 0 [])) : Int)))
 (T.leaf (Ex.normal, h_impl_fitted_L0 xss ts (tab (List.length (List.getD xss 0 [])) (fitAt xss ts (Int.toNat v17 + 1))) (wrap .i64 (v17 + 1))))))
 (T.leaf (Ex.exit 0, h_impl_fitted_L0 xss ts out v17)))) :
 Exec VC ps_impl_fitted (b_impl_fitted_L0) (h_impl_fitted_L0 xss ts out v17) e_ σ_ := evL_of (lv := lv_impl_fitted_L0) (rs := [4]) (O := ⟨fun _ _ => .fail, fun id σ => match id with | 2 => some (lv_impl_fitted_L2, .leaf (.normal, h_impl_fitted_L2 xss ts out v17 (tab (xss.getD 0 []).length (fitAt xss ts (v17.toNat + 1))) (xss.getD 0 []).length)) | _ => none⟩) (by kernel_rfl) ht

theorem q_impl_fitted_L2 {VC : FuncId → List AV → AV → Prop} (xss : LL) (ts : List Nat) (out : List Nat) (v17 : Int) (out2 : List Nat) (v24 : Int) {e_ : Ex} {σ_ : Env} (ht : T.ok (fun x_ => x_ = (e_, σ_)) (
 T.ite (decide (v24 < (↑(List.length (List.getD xss (Int.toNat v17) [])) : Int)))
 (T.ob (0 ≤ v24 ∧ v24 < (↑(List.length (List.getD xss (Int.toNat v17) [])) : Int))
 (T.ob (0 ≤ v24 ∧ v24 < (↑(List.length out2) : Int))
 (T.ob (0 ≤ v17 ∧ v17 < (↑(List.length ts) : Int))
 (T.ob (0 ≤ v24 ∧ v24 < (↑(List.length out2) : Int))
 (T.ob (false = false)
 (T.leaf
 (Ex.normal,
 h_impl_fitted_L2 xss ts out v17
 (List.set out2 (0 + Int.toNat v24 - 0)
 (fadd .f32 (List.getD out2 (Int.toNat v24) 0) (fmul .f32 (List.getD (List.getD xss (Int.toNat v17) []) (Int.toNat v24) 0) (List.getD ts (Int.toNat v17) 0))))
 (wrap .i64 (v24 + 1)))))))))
 (T.leaf (Ex.exit 2, h_impl_fitted_L2 xss ts out v17 out2 v24)))) :
 Exec VC ps_impl_fitted (b_impl_fitted_L2) (h_impl_fitted_L2 xss ts out v17 out2 v24) e_ σ_ := evL_of (lv := lv_impl_fitted_L2) (rs := [4]) (O := ⟨fun _ _ => .fail, fun _ _ => none⟩) (by kernel_rfl) ht

theorem q_impl_fitted {P : Program} {g_f : FuncId} (h_ : Is_impl_fitted P g_f) (xss : LL) (ts : List Nat) (ht : T.ok (fun x_ => x_ = OS 0 .f32 (fitM xss ts)) (
 T.ob ((0 : Int) ≤ 0 ∧ 0 < (↑(List.length xss) : Int))
 (T.ob ((↑(List.length (List.getD xss 0 [])) : Int) = (↑(List.length (List.getD xss 0 [])) : Int) ∧ 0 ≤ (↑(List.length (List.getD xss 0 [])) : Int) ∧ (↑(List.length (List.getD xss 0 [])) : Int) ≤ 4294967296)
 (T.ob
 (Exec (VCall P) ps_impl_fitted (VCode.block 0 (VCode.loop b_impl_fitted_L0)) (h_impl_fitted_L0 xss ts (List.replicate (Int.toNat (↑(List.length (List.getD xss 0 [])) : Int)) 0) 0) Ex.normal
 (h_impl_fitted_L0 xss ts (fitM xss ts) (↑(List.length xss) : Int)))
 (T.leaf (AV.sl (Tag.own 0) 0 (Cont.f .f32 (fitM xss ts)))))))) :
 VCall P g_f [PF [0] xss, PS [1] .f32 ts] (OS 0 .f32 (fitM xss ts)) := h_.call_of ps_impl_fitted ⟨fun _ _ => .fail, fun id σ => match id with | 0 => some (lv_impl_fitted_L0, .leaf (.normal, h_impl_fitted_L0 xss ts (fitM xss ts) xss.length)) | _ => none⟩ (by kernel_rfl) ht

-- END impl_fitted


-- FN impl_FittedOf
def ps_impl_FittedOf : List Nat := [0, 1, 4, 5, 29]
def b_impl_FittedOf (gq0 gq1 gq2 gq3 : FuncId) : VCode :=
 (.seq
 (.region false [
 ⟨some 4, (.nilsl (.f .f32 [])), [], none⟩,
 ⟨some 5, .mv, [.k (.b false)], none⟩])
 (.seq
 (.seq
 (.region false [
 ⟨some 6, .mv, [.t 0], none⟩,
 ⟨some 7, .len, [.t 6], none⟩,
 ⟨some 8, (.bin .eql), [.t 7, .k (.i .i64 0)], none⟩,
 ⟨some 9, .mv, [.t 8], none⟩,
 ⟨some 10, .mv, [.t 0], some (9, false)⟩,
 ⟨some 11, .mv, [.t 0], some (9, false)⟩,
 ⟨some 12, .iaddr, [.t 11, .k (.i .i64 0)], some (9, false)⟩,
 ⟨some 13, .load, [.t 12], some (9, false)⟩,
 ⟨some 14, .len, [.t 13], some (9, false)⟩,
 ⟨some 15, (.call gq0), [.t 10, .t 14], some (9, false)⟩,
 ⟨some 16, .not, [.t 15], some (9, false)⟩,
 ⟨some 17, .pick, [.t 9, .k (.b true), .t 16], none⟩,
 ⟨some 18, .mv, [.t 17], none⟩,
 ⟨some 19, .mv, [.t 1], some (18, false)⟩,
 ⟨some 20, .len, [.t 19], some (18, false)⟩,
 ⟨some 21, .mv, [.t 0], some (18, false)⟩,
 ⟨some 22, .len, [.t 21], some (18, false)⟩,
 ⟨some 23, (.bin .neq), [.t 20, .t 22], some (18, false)⟩,
 ⟨some 24, .pick, [.t 18, .k (.b true), .t 23], none⟩,
 ⟨some 25, .mv, [.t 24], none⟩,
 ⟨some 26, .mv, [.t 1], some (25, false)⟩,
 ⟨some 27, (.call gq1), [.t 26], some (25, false)⟩,
 ⟨some 28, .not, [.t 27], some (25, false)⟩,
 ⟨some 29, .pick, [.t 25, .k (.b true), .t 28], none⟩])
 (.cond (.t 29)
 (.seq
 (.region false [
 ⟨some 4, (.nilsl (.f .f32 [])), [], none⟩,
 ⟨some 5, .mv, [.k (.b false)], none⟩])
 .ret)
 .skip))
 (.seq
 (.region false [
 ⟨some 30, .mv, [.t 0], none⟩,
 ⟨some 31, .mv, [.t 1], none⟩,
 ⟨some 32, (.call gq2), [.t 30, .t 31], none⟩,
 ⟨some 33, (.call gq3), [.t 32], none⟩,
 ⟨some 34, (.extract 0), [.t 33], none⟩,
 ⟨some 35, (.extract 1), [.t 33], none⟩,
 ⟨some 4, .mv, [.t 34], none⟩,
 ⟨some 5, .mv, [.t 35], none⟩])
 .ret)))

abbrev Is_impl_FittedOf (P : Program) (g_f : FuncId) (gq0 gq1 gq2 gq3 : FuncId) : Prop := FnIs P g_f 36 [.t 4, .t 5] (b_impl_FittedOf gq0 gq1 gq2 gq3)

abbrev C_impl_FittedOf (P : Program) (g_f : FuncId) : Prop := ∀ (xss : LL) (ts : List Nat) (hx : xss.length ≤ maxLen) (hr : ∀ r ∈ xss, r.length ≤ maxLen) (ht : ts.length ≤ maxLen), VCall P g_f [PF [0] xss, PS [1] .f32 ts] (.tup [OS 0 .f32 (if fitOk xss ts = true then ifAllM (fitM xss ts) else []), .b (fitOk xss ts && finAllM (fitM xss ts))])
def oc_impl_FittedOf (xss : LL) (ts : List Nat) (d : Nat) (as : List AV) : T AV := match d with | 15 => oc1_impl_areColumns as | 27 => oc1_impl_areFinite as | 32 => oc1_impl_fitted as | 33 => oc1_impl_ifAll as | _ => .fail



theorem q_impl_FittedOf {P : Program} {g_f : FuncId} {gq0 gq1 gq2 gq3 : FuncId} (h_ : Is_impl_FittedOf P g_f gq0 gq1 gq2 gq3) (xss : LL) (ts : List Nat) (ht : T.ok (fun x_ => x_ = .tup [OS 0 .f32 (if fitOk xss ts = true then ifAllM (fitM xss ts) else []), .b (fitOk xss ts && finAllM (fitM xss ts))]) (
 T.ite ((↑(List.length xss) : Int) == 0) (T.leaf (AV.tup [AV.sl (Tag.own 0) 0 (Cont.f .f32 []), AV.b false]))
 (T.ob ((0 : Int) ≤ 0 ∧ 0 < (↑(List.length xss) : Int))
 (T.ob
 ((VCall P) gq0 [AV.sl (Tag.par [0]) 0 (Cont.ff .f32 xss), AV.i .i64 (↑(List.length (List.getD xss 0 [])) : Int)] (AV.b (colsM xss (Int.toNat (↑(List.length (List.getD xss 0 [])) : Int)))))
 (T.ite (!colsM xss (Int.toNat (↑(List.length (List.getD xss 0 [])) : Int))) (T.leaf (AV.tup [AV.sl (Tag.own 0) 0 (Cont.f .f32 []), AV.b false]))
 (T.ite ((↑(List.length ts) : Int) != (↑(List.length xss) : Int)) (T.leaf (AV.tup [AV.sl (Tag.own 0) 0 (Cont.f .f32 []), AV.b false]))
 (T.ob ((VCall P) gq1 [AV.sl (Tag.par [0]) 0 (Cont.f .f32 ts)] (AV.b (finAllM ts)))
 (T.ite (!finAllM ts) (T.leaf (AV.tup [AV.sl (Tag.own 0) 0 (Cont.f .f32 []), AV.b false]))
 (T.ob ((VCall P) gq2 [AV.sl (Tag.par [0]) 0 (Cont.ff .f32 xss), AV.sl (Tag.par [1]) 0 (Cont.f .f32 ts)] (AV.sl (Tag.own 0) 0 (Cont.f .f32 (fitM xss ts))))
 (T.ob ((VCall P) gq3 [AV.sl (Tag.par [0]) 0 (Cont.f .f32 (fitM xss ts))] (AV.tup [AV.sl (Tag.par [0]) 0 (Cont.f .f32 (ifAllM (fitM xss ts))), AV.b (finAllM (fitM xss ts))]))
 (T.leaf (AV.tup [AV.sl (Tag.own 0) 0 (Cont.f .f32 (ifAllM (fitM xss ts))), AV.b (finAllM (fitM xss ts))])))))))))))) :
 VCall P g_f [PF [0] xss, PS [1] .f32 ts] (.tup [OS 0 .f32 (if fitOk xss ts = true then ifAllM (fitM xss ts) else []), .b (fitOk xss ts && finAllM (fitM xss ts))]) := h_.call_of ps_impl_FittedOf ⟨oc_impl_FittedOf xss ts, fun _ _ => none⟩ (by kernel_rfl) ht

-- END impl_FittedOf


theorem k_impl_areColumns_1 {P : Program} {f g : FuncId} (h : Is_impl_areColumns_1 P f g) (c1 : C_impl_IsSeries P g) : C_impl_areColumns_1 P f := by
  intro c n hx hn
  refine q_impl_areColumns_1 h c n ⟨c1 _ hx, fun _ => ⟨fun h0 => ?_, fun h0 => ?_⟩⟩
  · simp at h0; simp [T.ok, colP, h0]
  · simp at h0
    show AV.b _ = AV.b _
    congr 1
    rw [Bool.eq_iff_iff]
    simp [colP, h0]; omega

theorem k_slices_IndexFunc_____float32___float32_ {P : Program} {f : FuncId} (h : Is_slices_IndexFunc_____float32___float32_ P f) : C_slices_IndexFunc_____float32___float32_ P f := by
  intro xs F n p hF hx
  have hm := ml64 hx
  have hF' : ∀ i, i < xs.length → VCall P F [PS [0] .f32 (xs.getD i []), .bx (.par [1]) [.i .i64 n]] (.b (p (xs.getD i []))) := fun i hi => hF _ (row_mem _ _ hi)
  have step : ∀ i, i < xs.length → p (xs.getD i []) = false → Exec (VCall P) ps_slices_IndexFunc_____float32___float32_ b_slices_IndexFunc_____float32___float32__L0 (h_slices_IndexFunc_____float32___float32__L0 xs F n p i) .normal (h_slices_IndexFunc_____float32___float32__L0 xs F n p (i + 1 : Nat)) := by
    intro i hi hp
    refine q_slices_IndexFunc_____float32___float32__L0 _ _ _ _ _ ⟨fun _ => ⟨by omega, fun _ => ⟨(by rw [Int.toNat_natCast]; exact hF' i hi), fun _ => ⟨fun h => ?_, fun _ => ?_⟩⟩⟩, fun h => absurd (of_decide_eq_false h) (by omega)⟩
    · rw [getD_nat, hp] at h; cases h
    · show _ = _
      rw [wrap64_id (by omega) (by omega)]; rfl
  refine q_slices_IndexFunc_____float32___float32_ h xs F n p ⟨fun hlt => ⟨?_, fun _ => ?_⟩, fun hge => ⟨?_, fun _ => ?_⟩⟩
  · have hlt := of_decide_eq_true hlt
    refine for_up (e := .ret) (xs.findIdx p) (fun i => h_slices_IndexFunc_____float32___float32__L0 xs F n p i) rfl (fun i hi => step i (by omega) (findIdx_not [] hi (by omega))) ?_
    refine q_slices_IndexFunc_____float32___float32__L0 _ _ _ _ _ ⟨fun _ => ⟨by omega, fun _ => ⟨(by rw [Int.toNat_natCast]; exact hF' _ hlt), fun _ => ⟨fun _ => rfl, fun h => ?_⟩⟩⟩, fun h => absurd (of_decide_eq_false h) (by omega)⟩
    rw [getD_nat, findIdx_is [] hlt] at h; cases h
  · have hlt := of_decide_eq_true hlt
    show _ = _
    simp [idxM, hlt]
  · have hge := of_decide_eq_false hge
    have he := findIdx_eq hge
    refine for_up (e := .exit 0) xs.length (fun i => h_slices_IndexFunc_____float32___float32__L0 xs F n p i) rfl (fun i hi => step i hi (findIdx_not [] (by omega) hi)) ?_
    exact q_slices_IndexFunc_____float32___float32__L0 _ _ _ _ _ ⟨fun h => absurd h (by simp), fun _ => rfl⟩
  · have hge := of_decide_eq_false hge
    show _ = _
    simp [idxM, hge]

theorem k_slices_ContainsFunc_____float32___float32_ {P : Program} {f g : FuncId} (h : Is_slices_ContainsFunc_____float32___float32_ P f g) (hg : C_slices_IndexFunc_____float32___float32_ P g) : C_slices_ContainsFunc_____float32___float32_ P f := by
  intro xs F n p hF hx
  refine q_slices_ContainsFunc_____float32___float32_ h xs F n p ⟨hg xs F n p hF hx, fun _ => ?_⟩
  show _ = _
  rw [idx_any]

theorem k_impl_areColumns {P : Program} {f F g : FuncId} (h : Is_impl_areColumns P f F g) (hF : C_impl_areColumns_1 P F) (hg : C_slices_ContainsFunc_____float32___float32_ P g) : C_impl_areColumns P f := by
  intro xss n hx hr hn
  refine q_impl_areColumns h xss n ⟨rfl, fun _ => ⟨fun h0 => ⟨fun h1 => ⟨hg xss F n _ (fun x hm => hF x n (hr x hm) hn) hx, fun _ => ?_⟩, fun h1 => ?_⟩, fun h0 => ?_⟩⟩
  · simp at h0 h1
    have h0 : 1 ≤ xss.length := by omega
    have h1 : xss.length ≤ 6 := by omega
    show AV.b _ = AV.b _
    congr 1
    rw [← List.not_all_eq_any_not, Bool.not_not]
    unfold colsM
    rw [decide_eq_true h0, decide_eq_true h1, Bool.true_and, Bool.true_and]
  · simp at h1
    have : ¬ xss.length ≤ 6 := by omega
    simp [T.ok, colsM, this]
  · simp at h0
    have : ¬ 1 ≤ xss.length := by omega
    simp only [T.ok, colsM, this, decide_false, Bool.false_and]

theorem allN_all {α : Type} (xs : List α) (d : α) (p : α → Bool) : (allN xs.length fun i => p (xs.getD i d)) = xs.all p := by
  rw [Bool.eq_iff_iff, allN_iff, List.all_eq_true]
  constructor
  · intro h x hx
    obtain ⟨i, hi, rfl⟩ := List.getElem_of_mem hx
    have := h i hi
    simpa [List.getD, hi] using this
  · intro h i hi
    refine h _ ?_
    simp [List.getD, hi]

theorem k_spec_l03Columns {P : Program} {f g : FuncId} (h : Is_spec_l03Columns P f g) (c1 : C_spec_l02Series P g) : C_spec_l03Columns P f := by
  intro xss hx hr
  refine q_spec_l03Columns h xss ⟨fun h0 => ?_, fun h0 => ⟨fun h1 => ?_, fun h1 => ?_⟩⟩
  · have h0 := of_decide_eq_true h0
    have : ¬ 1 ≤ xss.length := by omega
    simp only [T.ok, colsM, this, decide_false, Bool.false_and]
  · simp at h1
    have : ¬ xss.length ≤ 6 := by omega
    simp [T.ok, colsM, this]
  · have h0 := of_decide_eq_false h0
    have h1 := of_decide_eq_false h1
    have h0 : 1 ≤ xss.length := by omega
    have h1 : xss.length ≤ 6 := by omega
    have e : colsM xss (xss.getD 0 []).length = allN xss.length fun i => colP (xss.getD 0 []).length (xss.getD i []) := by
      rw [allN_all]; simp [colsM, h0, h1]
    rw [e]
    have go : ∀ i, i < xss.length → colP (xss.getD 0 []).length (xss.getD i []) = true → Exec (VCall P) ps_spec_l03Columns (b_spec_l03Columns_L0 g) (h_spec_l03Columns_L0 xss i) .normal (h_spec_l03Columns_L0 xss (i + 1 : Nat)) := by
      intro i hi hc
      refine q_spec_l03Columns_L0 _ _ ?_
      have a1 := c1 (xss.getD i []) (hr _ (row_mem _ _ hi))
      have hc : seriesM (xss.getD i []) = true ∧ (xss.getD i []).length = (xss.getD 0 []).length := by simpa [colP] using hc
      rw [Int.toNat_natCast, hc.1]
      rw [hc.1] at a1
      refine ⟨fun _ => ⟨by omega, fun _ => ⟨a1, fun _ => ⟨fun h => absurd h (by simp), fun _ => ⟨by omega, fun _ => ⟨by omega, fun _ => ⟨fun h => absurd h (by rw [hc.2]; simp), fun _ => ?_⟩⟩⟩⟩⟩⟩, fun h => absurd (of_decide_eq_false h) (by omega)⟩
      show _ = _
      rw [wrap64_id (by omega) (by omega)]; rfl
    refine ⟨fun h3 => ⟨?_, fun _ => ?_⟩, fun h3 => ⟨?_, fun _ => ?_⟩⟩
    · refine for_all (e := .exit 0) _ xss.length (fun i => h_spec_l03Columns_L0 xss i) h3 rfl go ?_
      exact q_spec_l03Columns_L0 _ _ ⟨fun h => absurd h (by simp), fun _ => rfl⟩
    · rw [h3]; rfl
    · refine for_one (e := .ret) _ xss.length (fun i => h_spec_l03Columns_L0 xss i) h3 rfl go (fun i hi hc => ?_)
      refine q_spec_l03Columns_L0 _ _ ?_
      have a1 := c1 (xss.getD i []) (hr _ (row_mem _ _ hi))
      rw [Int.toNat_natCast]
      refine ⟨fun _ => ⟨by omega, fun _ => ⟨a1, fun _ => ⟨fun h => rfl, fun h0 => ⟨by omega, fun _ => ⟨by omega, fun _ => ⟨fun h => rfl, fun h => ?_⟩⟩⟩⟩⟩⟩, fun h => absurd (of_decide_eq_false h) (by omega)⟩
      simp at h0 h
      simp [colP, h0] at hc; omega
    · rw [h3]; rfl

theorem k_impl_fitted {P : Program} {f : FuncId} (h : Is_impl_fitted P f) : C_impl_fitted P f := by
  intro xss ts h1 hs hn
  refine q_impl_fitted h xss ts ⟨by omega, fun _ => ⟨by omega, fun _ => ⟨?_, fun _ => rfl⟩⟩⟩
  refine for_up (e := .exit 0) xss.length (fun k => h_impl_fitted_L0 xss ts (tab (xss.getD 0 []).length (fitAt xss ts k)) k) ?_ (fun k hk => ?_) ?_
  · rw [Int.toNat_natCast]
    congr 1
    refine List.ext_getElem (by simp [tab_len]) fun i h1 h2 => ?_
    simp [tab, fitAt, accN]
  · refine q_impl_fitted_L0 _ _ _ _ ⟨fun _ => ⟨by omega, fun _ => ⟨?_, fun _ => ?_⟩⟩, fun h => absurd (of_decide_eq_false h) (by omega)⟩
    · have hsk := hs k hk
      rw [Int.toNat_natCast]
      refine for_up (e := .exit 2) (xss.getD 0 []).length (fun i => h_impl_fitted_L2 xss ts (tab (xss.getD 0 []).length (fitAt xss ts k)) k (tab (xss.getD 0 []).length fun j => if j < i then fitAt xss ts (k + 1) j else fitAt xss ts k j) i) (by simp) (fun i hi => ?_) ?_
      · refine q_impl_fitted_L2 _ _ _ _ _ _ ?_
        simp only [Int.toNat_natCast, tab_len, Nat.zero_add, Nat.sub_zero, hsk, tab_get _ _ i 0 hi, Nat.lt_irrefl, if_false, tab_set]
        refine ⟨fun _ => ⟨by omega, fun _ => ⟨by omega, fun _ => ⟨by omega, fun _ => ⟨by omega, fun _ => ⟨trivial, fun _ => ?_⟩⟩⟩⟩⟩, fun h => absurd (of_decide_eq_false h) (by omega)⟩
        show _ = _
        rw [wrap64_id (by omega) (by omega)]
        congr 2
        refine tab_congr fun j hj => ?_
        by_cases e : j = i
        · subst e; simp [fitAt, accN]
        · by_cases e2 : j < i
          · rw [if_neg e, if_pos e2, if_pos (by omega)]
          · rw [if_neg e, if_neg e2, if_neg (by omega)]
      · refine q_impl_fitted_L2 _ _ _ _ _ _ ?_
        rw [Int.toNat_natCast, hsk]
        refine ⟨fun h => absurd h (by simp), fun _ => ?_⟩
        show _ = _
        congr 2
        exact tab_congr fun j hj => by rw [if_pos hj]
    · show _ = _
      rw [wrap64_id (by omega) (by omega), Int.toNat_natCast]; rfl
  · exact q_impl_fitted_L0 _ _ _ _ ⟨fun h => absurd h (by simp), fun _ => rfl⟩

theorem cols_facts {xss : LL} {n : Nat} (h : colsM xss n = true) : (1 ≤ xss.length ∧ xss.length ≤ 6) ∧ (∀ i, i < xss.length → seriesM (xss.getD i []) = true ∧ (xss.getD i []).length = n) ∧ n ≤ 96 := by
  unfold colsM at h
  simp only [Bool.and_eq_true, decide_eq_true_eq, List.all_eq_true] at h
  have h2 : ∀ i, i < xss.length → seriesM (xss.getD i []) = true ∧ (xss.getD i []).length = n := fun i hi => by
    have := h.2.2 _ (row_mem xss i hi)
    simpa [colP] using this
  refine ⟨⟨h.1, h.2.1⟩, h2, ?_⟩
  have := h2 0 (by omega)
  have hl := series_len this.1
  omega
theorem fit_len (xss : LL) (ts : List Nat) : (fitM xss ts).length = (xss.getD 0 []).length := tab_len _ _

theorem k_impl_FittedOf {P : Program} {f g1 g2 g3 g4 : FuncId} (h : Is_impl_FittedOf P f g1 g2 g3 g4) (c1 : C_impl_areColumns P g1) (c2 : C_impl_areFinite P g2) (c3 : C_impl_fitted P g3) (c4 : C_impl_ifAll P g4) : C_impl_FittedOf P f := by
  intro xss ts hx hr ht
  refine q_impl_FittedOf h xss ts ⟨fun h0 => ?_, fun h0 => ⟨?_, fun _ => ⟨c1 _ _ hx hr (by omega), fun _ => ?_⟩⟩⟩
  · have h0 : xss.length = 0 := by simpa using h0
    simp [T.ok, fitOk, colsM, h0]
  · have h0 : xss.length ≠ 0 := by simpa using h0
    omega
  rw [Int.toNat_natCast]
  refine ⟨fun h1 => ?_, fun h1 => ⟨fun h2 => ?_, fun h2 => ⟨c2 _ ht, fun _ => ⟨fun h3 => ?_, fun h3 => ?_⟩⟩⟩⟩
  · simp only [Bool.not_eq_true'] at h1; simp only [T.ok, fitOk, h1, Bool.false_and, Bool.and_false, Bool.true_and, Bool.and_true, Bool.false_eq_true, if_false, if_true]
  · have h2 : ts.length ≠ xss.length := by intro e; rw [e] at h2; simp at h2
    have h2 : (ts.length == xss.length) = false := by simpa using h2
    simp only [T.ok, fitOk, h2, Bool.false_and, Bool.and_false, Bool.true_and, Bool.and_true, Bool.false_eq_true, if_false, if_true]
  · simp only [Bool.not_eq_true'] at h3; simp only [T.ok, fitOk, h3, Bool.false_and, Bool.and_false, Bool.true_and, Bool.and_true, Bool.false_eq_true, if_false, if_true]
  · simp only [Bool.not_eq_false'] at h1 h3
    have h2 : ts.length = xss.length := by simp at h2; omega
    obtain ⟨f1, f2, f3⟩ := cols_facts h1
    refine ⟨c3 _ _ (by omega) (fun i hi => (f2 i hi).2) (by omega), fun _ => ⟨c4 _ (by rw [fit_len, maxLen_eq]; omega), fun _ => ?_⟩⟩
    have h2 : (ts.length == xss.length) = true := by simpa using h2
    simp only [T.ok, fitOk, h1, h2, h3, Bool.false_and, Bool.and_false, Bool.true_and, Bool.and_true, Bool.false_eq_true, if_false, if_true]

end Go.Proofs.LV
