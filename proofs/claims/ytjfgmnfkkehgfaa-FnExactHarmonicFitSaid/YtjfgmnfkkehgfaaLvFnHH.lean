/- Columns: what they are, what is fitted to them. -/
import Derived.Test.YtjfgmnfkkehgfaaLvFnOX
namespace Go.Proofs.LV
open Go
set_option linter.unusedVariables false
set_option linter.unusedSimpArgs false

def colP (n : Nat) (c : List Nat) : Bool := seriesM c && (c.length == n)
def colsM (xss : LL) (n : Nat) : Bool := decide (1 ≤ xss.length) && (decide (xss.length ≤ 6) && xss.all (colP n))

-- FN impl_areColumns_1
/-- impl.areColumns$1: slots 13, results [.t 3]; calls [5:g_impl_IsSeries]; names [(c, 0), (c, 2)] -/
def ps_impl_areColumns_1 : List Nat := [0, 1, 3]
def b_impl_areColumns_1 (g_impl_IsSeries : FuncId) : VCode :=
  (.seq
   (.region false [
    ⟨some 3, .mv, [.k (.b false)], none⟩])
   (.seq
    (.region false [
     ⟨some 4, .mv, [.t 0], none⟩,
     ⟨some 5, (.call g_impl_IsSeries), [.t 4], none⟩,
     ⟨some 6, .not, [.t 5], none⟩,
     ⟨some 7, .mv, [.t 6], none⟩,
     ⟨some 8, .mv, [.t 0], some (7, false)⟩,
     ⟨some 9, .len, [.t 8], some (7, false)⟩,
     ⟨some 10, .load, [.t 1], some (7, false)⟩,
     ⟨some 11, (.bin .neq), [.t 9, .t 10], some (7, false)⟩,
     ⟨some 12, .pick, [.t 7, .k (.b true), .t 11], none⟩,
     ⟨some 3, .mv, [.t 12], none⟩])
    .ret))

abbrev Is_impl_areColumns_1 (P : Program) (g_f : FuncId) (g_impl_IsSeries : FuncId) : Prop := FnIs P g_f 13 [.t 3] (b_impl_areColumns_1 g_impl_IsSeries)

abbrev C_impl_areColumns_1 (P : Program) (g_f : FuncId) : Prop := ∀ (c : List Nat) (n : Int) (hx : c.length ≤ maxLen) (hn : 0 ≤ n), VCall P g_f [PS [0] .f32 c, .bx (.par [1]) [.i .i64 n]] (.b (!colP n.toNat c))
def oc1_impl_areColumns_1 (as : List AV) : T AV := match as with | [.sl _ _ (.f .f32 c), .bx _ [.i .i64 n]] => .leaf (.b (!colP n.toNat c)) | _ => .fail
def oc_impl_areColumns_1 (c : List Nat) (n : Int) (d : Nat) (as : List AV) : T AV := match d with | 5 => oc1_impl_IsSeries as | _ => .fail



theorem q_impl_areColumns_1 {P : Program} {g_f : FuncId} {g_impl_IsSeries : FuncId} (h_ : Is_impl_areColumns_1 P g_f g_impl_IsSeries) (c : List Nat) (n : Int) (ht : T.ok (fun x_ => x_ = .b (!colP n.toNat c)) (
      T.ob ((VCall P) g_impl_IsSeries [AV.sl (Tag.par [0]) 0 (Cont.f FloatKind.f32 c)] (AV.b (seriesM c))) (T.ite (!seriesM c) (T.leaf (AV.b true)) (T.leaf (AV.b ((↑(List.length c) : Int) != n)))))) :
    VCall P g_f [PS [0] .f32 c, .bx (.par [1]) [.i .i64 n]] (.b (!colP n.toNat c)) := h_.call_of ps_impl_areColumns_1 ⟨oc_impl_areColumns_1 c n, fun _ _ => none⟩ (by kernel_rfl) ht

-- END impl_areColumns_1

-- FN slices_IndexFunc_____float32___float32_
/-- slices.IndexFunc[[][]float32,[]float32]: slots 19, results [.t 4]; calls [16:VALUE]; names [(s, 0), (f, 1), (s, 2), (f, 3), (i, 5)] -/
def ps_slices_IndexFunc_____float32___float32_ : List Nat := [0, 1, 4, 5, 7, 8, 9, 16]
def lv_slices_IndexFunc_____float32___float32__L0 : List Nat := [0, 1, 7, 8]
def b_slices_IndexFunc_____float32___float32__L0 : VCode :=
  (.seq
   (.region false [
    ⟨some 9, (.bin .lss), [.t 8, .t 7], none⟩])
   (.seq
    (.cond (.t 9)
     .skip
     (.exit 0))
    (.seq
     (.block 1
      (.seq
       (.region false [
        ⟨some 10, .mv, [.t 8], none⟩,
        ⟨some 5, .mv, [.t 10], none⟩])
       (.seq
        (.region false [
         ⟨some 11, .mv, [.t 1], none⟩,
         ⟨some 12, .mv, [.t 0], none⟩,
         ⟨some 13, .mv, [.t 5], none⟩,
         ⟨some 14, .iaddr, [.t 12, .t 13], none⟩,
         ⟨some 15, .load, [.t 14], none⟩,
         ⟨some 16, .callv, [.t 11, .t 15], none⟩])
        (.cond (.t 16)
         (.seq
          (.region false [
           ⟨some 17, .mv, [.t 5], none⟩,
           ⟨some 4, .mv, [.t 17], none⟩])
          .ret)
         .skip))))
     (.region false [
      ⟨some 18, (.bin .add), [.t 8, .k (.i .i64 1)], none⟩,
      ⟨some 8, .mv, [.t 18], none⟩]))))

def b_slices_IndexFunc_____float32___float32_ : VCode :=
  (.seq
   (.region false [
    ⟨some 4, .mv, [.k (.i .i64 0)], none⟩])
   (.seq
    (.seq
     (.region false [
      ⟨some 6, .mv, [.t 0], none⟩,
      ⟨some 7, .len, [.t 6], none⟩,
      ⟨some 8, .mv, [.k (.i .i64 0)], none⟩])
     (.block 0 (.loop b_slices_IndexFunc_____float32___float32__L0)))
    (.seq
     (.region false [
      ⟨some 4, .mv, [.k (.i .i64 (-1))], none⟩])
     .ret)))

abbrev Is_slices_IndexFunc_____float32___float32_ (P : Program) (g_f : FuncId) : Prop := FnIs P g_f 19 [.t 4] (b_slices_IndexFunc_____float32___float32_)

abbrev C_slices_IndexFunc_____float32___float32_ (P : Program) (g_f : FuncId) : Prop := ∀ (xs : LL) (F : FuncId) (n : Int) (p : List Nat → Bool) (hF : ∀ x, x ∈ xs → VCall P F [PS [0] .f32 x, .bx (.par [1]) [.i .i64 n]] (.b (p x))) (hx : xs.length ≤ maxLen), VCall P g_f [PF [0] xs, .fn F [.bx (.par [1, 0]) [.i .i64 n]]] (.i .i64 (idxM p xs))
def oc_slices_IndexFunc_____float32___float32_ (xs : LL) (F : FuncId) (n : Int) (p : List Nat → Bool) (d : Nat) (as : List AV) : T AV := match d with | 16 => (match as with | [.sl _ _ (.f _ x), _] => .leaf (.b (p x)) | _ => .fail) | _ => .fail
def h_slices_IndexFunc_____float32___float32__L0 (xs : LL) (F : FuncId) (n : Int) (p : List Nat → Bool) (v8 : Int) : Env := [AV.sl (Tag.par [0]) 0 (Cont.ff FloatKind.f32 xs), AV.fn F [AV.bx (Tag.par [1, 0]) [AV.i IntKind.i64 n]]] ++ anys 5 ++ [AV.i IntKind.i64 (↑(List.length xs) : Int), .i IntKind.i64 v8] ++ anys 10

theorem q_slices_IndexFunc_____float32___float32__L0 {VC : FuncId → List AV → AV → Prop} (xs : LL) (F : FuncId) (n : Int) (p : List Nat → Bool) (v8 : Int) {e_ : Ex} {σ_ : Env} (ht : T.ok (fun x_ => x_ = (e_, σ_)) (
      T.ite (decide (v8 < (↑(List.length xs) : Int)))
        (T.ob (0 ≤ v8 ∧ v8 < (↑(List.length xs) : Int))
          (T.ob (VC F [AV.sl (Tag.par [0]) 0 (Cont.f FloatKind.f32 (List.getD xs (Int.toNat v8) [])), AV.bx (Tag.par [1]) [AV.i IntKind.i64 n]] (AV.b (p (List.getD xs (Int.toNat v8) []))))
            (T.ite (p (List.getD xs (Int.toNat v8) [])) (T.leaf (Ex.ret, anys 4 ++ AV.i IntKind.i64 v8 :: anys 14))
              (T.leaf (Ex.normal, h_slices_IndexFunc_____float32___float32__L0 xs F n p (IntKind.wrap IntKind.i64 (v8 + 1)))))))
        (T.leaf (Ex.exit 0, h_slices_IndexFunc_____float32___float32__L0 xs F n p v8)))) :
    Exec VC ps_slices_IndexFunc_____float32___float32_ (b_slices_IndexFunc_____float32___float32__L0) (h_slices_IndexFunc_____float32___float32__L0 xs F n p v8) e_ σ_ := evL_of (lv := lv_slices_IndexFunc_____float32___float32__L0) (rs := [4]) (O := ⟨oc_slices_IndexFunc_____float32___float32_ xs F n p, fun _ _ => none⟩) (by kernel_rfl) ht

theorem q_slices_IndexFunc_____float32___float32_ {P : Program} {g_f : FuncId} (h_ : Is_slices_IndexFunc_____float32___float32_ P g_f) (xs : LL) (F : FuncId) (n : Int) (p : List Nat → Bool) (ht : T.ok (fun x_ => x_ = .i .i64 (idxM p xs)) (
      T.ite (decide (List.findIdx p xs < List.length xs))
        (T.ob
          (Exec (VCall P) ps_slices_IndexFunc_____float32___float32_ (VCode.block 0 (VCode.loop b_slices_IndexFunc_____float32___float32__L0)) (h_slices_IndexFunc_____float32___float32__L0 xs F n p 0) Ex.ret
            (anys 4 ++ AV.i IntKind.i64 (↑(List.findIdx p xs) : Int) :: anys 14))
          (T.leaf (AV.i IntKind.i64 (↑(List.findIdx p xs) : Int))))
        (T.ob
          (Exec (VCall P) ps_slices_IndexFunc_____float32___float32_ (VCode.block 0 (VCode.loop b_slices_IndexFunc_____float32___float32__L0)) (h_slices_IndexFunc_____float32___float32__L0 xs F n p 0) Ex.normal
            (h_slices_IndexFunc_____float32___float32__L0 xs F n p (↑(List.length xs) : Int)))
          (T.leaf (AV.i IntKind.i64 (-1)))))) :
    VCall P g_f [PF [0] xs, .fn F [.bx (.par [1, 0]) [.i .i64 n]]] (.i .i64 (idxM p xs)) := h_.call_of ps_slices_IndexFunc_____float32___float32_ ⟨oc_slices_IndexFunc_____float32___float32_ xs F n p, fun id σ => match id with | 0 => some (lv_slices_IndexFunc_____float32___float32__L0, .ite (decide (xs.findIdx p < xs.length)) (.leaf (.ret, ret1 19 4 (.i .i64 (xs.findIdx p)))) (.leaf (.normal, h_slices_IndexFunc_____float32___float32__L0 xs F n p xs.length))) | _ => none⟩ (by kernel_rfl) ht

-- END slices_IndexFunc_____float32___float32_

-- FN slices_ContainsFunc_____float32___float32_
/-- slices.ContainsFunc[[][]float32,[]float32]: slots 9, results [.t 4]; calls [7:g_slices_IndexFunc_____float32___float32_]; names [(s, 0), (f, 1), (s, 2), (f, 3)] -/
def ps_slices_ContainsFunc_____float32___float32_ : List Nat := [0, 1, 4]
def b_slices_ContainsFunc_____float32___float32_ (g_slices_IndexFunc_____float32___float32_ : FuncId) : VCode :=
  (.seq
   (.region false [
    ⟨some 4, .mv, [.k (.b false)], none⟩])
   (.seq
    (.region false [
     ⟨some 5, .mv, [.t 0], none⟩,
     ⟨some 6, .mv, [.t 1], none⟩,
     ⟨some 7, (.call g_slices_IndexFunc_____float32___float32_), [.t 5, .t 6], none⟩,
     ⟨some 8, (.bin .geq), [.t 7, .k (.i .i64 0)], none⟩,
     ⟨some 4, .mv, [.t 8], none⟩])
    .ret))

abbrev Is_slices_ContainsFunc_____float32___float32_ (P : Program) (g_f : FuncId) (g_slices_IndexFunc_____float32___float32_ : FuncId) : Prop := FnIs P g_f 9 [.t 4] (b_slices_ContainsFunc_____float32___float32_ g_slices_IndexFunc_____float32___float32_)

abbrev C_slices_ContainsFunc_____float32___float32_ (P : Program) (g_f : FuncId) : Prop := ∀ (xs : LL) (F : FuncId) (n : Int) (p : List Nat → Bool) (hF : ∀ x, x ∈ xs → VCall P F [PS [0] .f32 x, .bx (.par [1]) [.i .i64 n]] (.b (p x))) (hx : xs.length ≤ maxLen), VCall P g_f [PF [0] xs, .fn F [.bx (.par [1, 0]) [.i .i64 n]]] (.b (xs.any p))
def oc_slices_ContainsFunc_____float32___float32_ (xs : LL) (F : FuncId) (n : Int) (p : List Nat → Bool) (d : Nat) (as : List AV) : T AV := match d with | 7 => .leaf (.i .i64 (idxM p xs)) | _ => .fail



theorem q_slices_ContainsFunc_____float32___float32_ {P : Program} {g_f : FuncId} {g_slices_IndexFunc_____float32___float32_ : FuncId} (h_ : Is_slices_ContainsFunc_____float32___float32_ P g_f g_slices_IndexFunc_____float32___float32_) (xs : LL) (F : FuncId) (n : Int) (p : List Nat → Bool) (ht : T.ok (fun x_ => x_ = .b (xs.any p)) (
      T.ob ((VCall P) g_slices_IndexFunc_____float32___float32_ [AV.sl (Tag.par [0]) 0 (Cont.ff FloatKind.f32 xs), AV.fn F [AV.bx (Tag.par [1, 0]) [AV.i IntKind.i64 n]]] (AV.i IntKind.i64 (idxM p xs)))
        (T.leaf (AV.b (decide (idxM p xs ≥ 0)))))) :
    VCall P g_f [PF [0] xs, .fn F [.bx (.par [1, 0]) [.i .i64 n]]] (.b (xs.any p)) := h_.call_of ps_slices_ContainsFunc_____float32___float32_ ⟨oc_slices_ContainsFunc_____float32___float32_ xs F n p, fun _ _ => none⟩ (by kernel_rfl) ht

-- END slices_ContainsFunc_____float32___float32_

-- FN impl_areColumns
/-- impl.areColumns: slots 19, results [.t 4]; calls [16:g_slices_ContainsFunc_____float32___float32_]; names [(columns, 0), (long, 1), (columns, 2), (long, 3)] -/
def ps_impl_areColumns : List Nat := [0, 1, 3, 4]
def b_impl_areColumns (g_impl_areColumns_1 g_slices_ContainsFunc_____float32___float32_ : FuncId) : VCode :=
  (.seq
   (.region false [
    ⟨some 3, .box, [.t 1], none⟩,
    ⟨some 4, .mv, [.k (.b false)], none⟩])
   (.seq
    (.region false [
     ⟨some 5, .mv, [.t 0], none⟩,
     ⟨some 6, .len, [.t 5], none⟩,
     ⟨some 7, (.bin .geq), [.t 6, .k (.i .i64 1)], none⟩,
     ⟨some 8, .mv, [.t 7], none⟩,
     ⟨some 9, .mv, [.t 0], some (8, true)⟩,
     ⟨some 10, .len, [.t 9], some (8, true)⟩,
     ⟨some 11, (.bin .leq), [.t 10, .k (.i .i64 6)], some (8, true)⟩,
     ⟨some 12, .pick, [.t 8, .t 11, .k (.b false)], none⟩,
     ⟨some 13, .mv, [.t 12], none⟩,
     ⟨some 14, .mv, [.t 0], some (13, true)⟩,
     ⟨some 15, (.mkfn g_impl_areColumns_1), [.t 3], some (13, true)⟩,
     ⟨some 16, (.call g_slices_ContainsFunc_____float32___float32_), [.t 14, .t 15], some (13, true)⟩,
     ⟨some 17, .not, [.t 16], some (13, true)⟩,
     ⟨some 18, .pick, [.t 13, .t 17, .k (.b false)], none⟩,
     ⟨some 4, .mv, [.t 18], none⟩])
    .ret))

abbrev Is_impl_areColumns (P : Program) (g_f : FuncId) (g_impl_areColumns_1 g_slices_ContainsFunc_____float32___float32_ : FuncId) : Prop := FnIs P g_f 19 [.t 4] (b_impl_areColumns g_impl_areColumns_1 g_slices_ContainsFunc_____float32___float32_)

abbrev C_impl_areColumns (P : Program) (g_f : FuncId) : Prop := ∀ (xss : LL) (n : Int) (hx : xss.length ≤ maxLen) (hr : ∀ r ∈ xss, r.length ≤ maxLen) (hn : 0 ≤ n), VCall P g_f [PF [0] xss, .i .i64 n] (.b (colsM xss n.toNat))
def oc1_impl_areColumns (as : List AV) : T AV := match as with | [.sl _ _ (.ff _ xss), .i .i64 n] => .leaf (.b (colsM xss n.toNat)) | _ => .fail
def oc_impl_areColumns (xss : LL) (n : Int) (d : Nat) (as : List AV) : T AV := match d with | 16 => .leaf (.b (xss.any fun c => !colP n.toNat c)) | _ => .fail



theorem q_impl_areColumns {P : Program} {g_f : FuncId} {g_impl_areColumns_1 g_slices_ContainsFunc_____float32___float32_ : FuncId} (h_ : Is_impl_areColumns P g_f g_impl_areColumns_1 g_slices_ContainsFunc_____float32___float32_) (xss : LL) (n : Int) (ht : T.ok (fun x_ => x_ = .b (colsM xss n.toNat)) (
      T.ob (false = false)
        (T.ite (decide ((↑(List.length xss) : Int) ≥ 1))
          (T.ite (decide ((↑(List.length xss) : Int) ≤ 6))
            (T.ob
              ((VCall P) g_slices_ContainsFunc_____float32___float32_ [AV.sl (Tag.par [0]) 0 (Cont.ff FloatKind.f32 xss), AV.fn g_impl_areColumns_1 [AV.bx (Tag.par [1, 0]) [AV.i IntKind.i64 n]]]
                (AV.b (List.any xss fun (c : List Nat) => !colP (Int.toNat n) c)))
              (T.leaf (AV.b !List.any xss fun (c : List Nat) => !colP (Int.toNat n) c)))
            (T.leaf (AV.b false)))
          (T.leaf (AV.b false))))) :
    VCall P g_f [PF [0] xss, .i .i64 n] (.b (colsM xss n.toNat)) := h_.call_of ps_impl_areColumns ⟨oc_impl_areColumns xss n, fun _ _ => none⟩ (by kernel_rfl) ht

-- END impl_areColumns

-- FN spec_l03Columns
/-- spec.l03Columns: slots 36, results [.t 2]; calls [21:g_spec_l02Series]; names [(columns, 0), (columns, 1), (i, 3)] -/
def ps_spec_l03Columns : List Nat := [0, 2, 3, 11, 13, 14, 15, 34]
def lv_spec_l03Columns_L0 : List Nat := [0, 13, 14]
def b_spec_l03Columns_L0 (g_spec_l02Series : FuncId) : VCode :=
  (.seq
   (.region false [
    ⟨some 15, (.bin .lss), [.t 14, .t 13], none⟩])
   (.seq
    (.cond (.t 15)
     .skip
     (.exit 0))
    (.seq
     (.block 1
      (.seq
       (.region false [
        ⟨some 16, .mv, [.t 14], none⟩,
        ⟨some 3, .mv, [.t 16], none⟩])
       (.seq
        (.region true [
         ⟨some 17, .mv, [.t 0], none⟩,
         ⟨some 18, .mv, [.t 3], none⟩,
         ⟨some 19, .iaddr, [.t 17, .t 18], none⟩,
         ⟨some 20, .load, [.t 19], none⟩,
         ⟨some 21, (.call g_spec_l02Series), [.t 20], none⟩,
         ⟨some 22, .not, [.t 21], none⟩,
         ⟨some 23, .mv, [.t 22], none⟩,
         ⟨some 24, .mv, [.t 0], some (23, false)⟩,
         ⟨some 25, .mv, [.t 3], some (23, false)⟩,
         ⟨some 26, .iaddr, [.t 24, .t 25], some (23, false)⟩,
         ⟨some 27, .load, [.t 26], some (23, false)⟩,
         ⟨some 28, .len, [.t 27], some (23, false)⟩,
         ⟨some 29, .mv, [.t 0], some (23, false)⟩,
         ⟨some 30, .iaddr, [.t 29, .k (.i .i64 0)], some (23, false)⟩,
         ⟨some 31, .load, [.t 30], some (23, false)⟩,
         ⟨some 32, .len, [.t 31], some (23, false)⟩,
         ⟨some 33, (.bin .neq), [.t 28, .t 32], some (23, false)⟩,
         ⟨some 34, .pick, [.t 23, .k (.b true), .t 33], none⟩])
        (.cond (.t 34)
         (.seq
          (.region false [
           ⟨some 2, .mv, [.k (.b false)], none⟩])
          .ret)
         .skip))))
     (.region false [
      ⟨some 35, (.bin .add), [.t 14, .k (.i .i64 1)], none⟩,
      ⟨some 14, .mv, [.t 35], none⟩]))))

def b_spec_l03Columns (g_spec_l02Series : FuncId) : VCode :=
  (.seq
   (.region false [
    ⟨some 2, .mv, [.k (.b false)], none⟩])
   (.seq
    (.seq
     (.region false [
      ⟨some 4, .mv, [.t 0], none⟩,
      ⟨some 5, .len, [.t 4], none⟩,
      ⟨some 6, (.bin .lss), [.t 5, .k (.i .i64 1)], none⟩,
      ⟨some 7, .mv, [.t 6], none⟩,
      ⟨some 8, .mv, [.t 0], some (7, false)⟩,
      ⟨some 9, .len, [.t 8], some (7, false)⟩,
      ⟨some 10, (.bin .gtr), [.t 9, .k (.i .i64 6)], some (7, false)⟩,
      ⟨some 11, .pick, [.t 7, .k (.b true), .t 10], none⟩])
     (.cond (.t 11)
      (.seq
       (.region false [
        ⟨some 2, .mv, [.k (.b false)], none⟩])
       .ret)
      .skip))
    (.seq
     (.seq
      (.region false [
       ⟨some 12, .mv, [.t 0], none⟩,
       ⟨some 13, .len, [.t 12], none⟩,
       ⟨some 14, .mv, [.k (.i .i64 0)], none⟩])
      (.block 0 (.loop (b_spec_l03Columns_L0 g_spec_l02Series))))
     (.seq
      (.region false [
       ⟨some 2, .mv, [.k (.b true)], none⟩])
      .ret))))

abbrev Is_spec_l03Columns (P : Program) (g_f : FuncId) (g_spec_l02Series : FuncId) : Prop := FnIs P g_f 36 [.t 2] (b_spec_l03Columns g_spec_l02Series)

abbrev C_spec_l03Columns (P : Program) (g_f : FuncId) : Prop := ∀ (xss : LL) (hx : xss.length ≤ maxLen) (hr : ∀ r ∈ xss, r.length ≤ maxLen), VCall P g_f [PF [0] xss] (.b (colsM xss (xss.getD 0 []).length))
def oc1_spec_l03Columns (as : List AV) : T AV := match as with | [.sl _ _ (.ff _ xss)] => .leaf (.b (colsM xss (xss.getD 0 []).length)) | _ => .fail
def oc_spec_l03Columns (xss : LL) (d : Nat) (as : List AV) : T AV := match d with | 21 => oc1_spec_l02Series as | _ => .fail
def h_spec_l03Columns_L0 (xss : LL) (v14 : Int) : Env := [AV.sl (Tag.par [0]) 0 (Cont.ff FloatKind.f32 xss)] ++ anys 12 ++ [AV.i IntKind.i64 (↑(List.length xss) : Int), .i IntKind.i64 v14] ++ anys 21

theorem q_spec_l03Columns_L0 {VC : FuncId → List AV → AV → Prop} {g_spec_l02Series : FuncId} (xss : LL) (v14 : Int) {e_ : Ex} {σ_ : Env} (ht : T.ok (fun x_ => x_ = (e_, σ_)) (
      T.ite (decide (v14 < (↑(List.length xss) : Int)))
        (T.ob (0 ≤ v14 ∧ v14 < (↑(List.length xss) : Int))
          (T.ob (VC g_spec_l02Series [AV.sl (Tag.par [0]) 0 (Cont.f FloatKind.f32 (List.getD xss (Int.toNat v14) []))] (AV.b (seriesM (List.getD xss (Int.toNat v14) []))))
            (T.ite (!seriesM (List.getD xss (Int.toNat v14) [])) (T.leaf (Ex.ret, AV.any :: AV.any :: AV.b false :: anys 33))
              (T.ob (0 ≤ v14 ∧ v14 < (↑(List.length xss) : Int))
                (T.ob ((0 : Int) ≤ 0 ∧ 0 < (↑(List.length xss) : Int))
                  (T.ite ((↑(List.length (List.getD xss (Int.toNat v14) [])) : Int) != (↑(List.length (List.getD xss 0 [])) : Int)) (T.leaf (Ex.ret, AV.any :: AV.any :: AV.b false :: anys 33))
                    (T.leaf (Ex.normal, h_spec_l03Columns_L0 xss (IntKind.wrap IntKind.i64 (v14 + 1))))))))))
        (T.leaf (Ex.exit 0, h_spec_l03Columns_L0 xss v14)))) :
    Exec VC ps_spec_l03Columns (b_spec_l03Columns_L0 g_spec_l02Series) (h_spec_l03Columns_L0 xss v14) e_ σ_ := evL_of (lv := lv_spec_l03Columns_L0) (rs := [2]) (O := ⟨oc_spec_l03Columns xss, fun _ _ => none⟩) (by kernel_rfl) ht

theorem q_spec_l03Columns {P : Program} {g_f : FuncId} {g_spec_l02Series : FuncId} (h_ : Is_spec_l03Columns P g_f g_spec_l02Series) (xss : LL) (ht : T.ok (fun x_ => x_ = .b (colsM xss (xss.getD 0 []).length)) (
      T.ite (decide ((↑(List.length xss) : Int) < 1)) (T.leaf (AV.b false))
        (T.ite (decide ((↑(List.length xss) : Int) > 6)) (T.leaf (AV.b false))
          (T.ite (allN (List.length xss) fun (i : Nat) => colP (List.length (List.getD xss 0 [])) (List.getD xss i []))
            (T.ob (Exec (VCall P) ps_spec_l03Columns (VCode.block 0 (VCode.loop (b_spec_l03Columns_L0 g_spec_l02Series))) (h_spec_l03Columns_L0 xss 0) Ex.normal (h_spec_l03Columns_L0 xss (↑(List.length xss) : Int)))
              (T.leaf (AV.b true)))
            (T.ob (Exec (VCall P) ps_spec_l03Columns (VCode.block 0 (VCode.loop (b_spec_l03Columns_L0 g_spec_l02Series))) (h_spec_l03Columns_L0 xss 0) Ex.ret (AV.any :: AV.any :: AV.b false :: anys 33)) (T.leaf (AV.b false))))))) :
    VCall P g_f [PF [0] xss] (.b (colsM xss (xss.getD 0 []).length)) := h_.call_of ps_spec_l03Columns ⟨oc_spec_l03Columns xss, fun id σ => match id with | 0 => some (lv_spec_l03Columns_L0, .ite (allN xss.length fun i => colP (xss.getD 0 []).length (xss.getD i [])) (.leaf (.normal, h_spec_l03Columns_L0 xss xss.length)) (.leaf (.ret, ret1 36 2 (.b false)))) | _ => none⟩ (by kernel_rfl) ht

-- END spec_l03Columns

/-- the sum at a place, of the first k columns -/
def fitAt (xss : LL) (ts : List Nat) (k j : Nat) : Nat := accN (fun i s => fadd .f32 s (fmul .f32 ((xss.getD i []).getD j 0) (ts.getD i 0))) k 0
def fitM (xss : LL) (ts : List Nat) : List Nat := tab (xss.getD 0 []).length (fitAt xss ts xss.length)
def fitOk (xss : LL) (ts : List Nat) : Bool := colsM xss (xss.getD 0 []).length && (ts.length == xss.length && finAllM ts)
/-- columns that are as long -/
def sameL (xss : LL) : Prop := ∀ i, i < xss.length → (xss.getD i []).length = (xss.getD 0 []).length





theorem k_impl_areColumns_1 {P : Program} {f g : FuncId} (h : Is_impl_areColumns_1 P f g) (c1 : C_impl_IsSeries P g) : C_impl_areColumns_1 P f := by
  intro c n hx hn
  refine q_impl_areColumns_1 h c n ⟨c1 _ hx, fun _ => ⟨fun h0 => ?_, fun h0 => ?_⟩⟩
  · simp at h0; simp [T.ok, colP, h0]
  · simp at h0
    show AV.b _ = AV.b _
    congr 1
    rw [Bool.eq_iff_iff]
    simp [colP, h0]; omega

theorem k_slices_IndexFunc_____float32___float32_ {P : Program} {f : FuncId} (h : Is_slices_IndexFunc_____float32___float32_ P f) : C_slices_IndexFunc_____float32___float32_ P f := by
  intro xs F n p hF hx
  have hm := ml64 hx
  have hF' : ∀ i, i < xs.length → VCall P F [PS [0] .f32 (xs.getD i []), .bx (.par [1]) [.i .i64 n]] (.b (p (xs.getD i []))) := fun i hi => hF _ (row_mem _ _ hi)
  have step : ∀ i, i < xs.length → p (xs.getD i []) = false → Exec (VCall P) ps_slices_IndexFunc_____float32___float32_ b_slices_IndexFunc_____float32___float32__L0 (h_slices_IndexFunc_____float32___float32__L0 xs F n p i) .normal (h_slices_IndexFunc_____float32___float32__L0 xs F n p (i + 1 : Nat)) := by
    intro i hi hp
    refine q_slices_IndexFunc_____float32___float32__L0 _ _ _ _ _ ⟨fun _ => ⟨by omega, fun _ => ⟨(by rw [Int.toNat_natCast]; exact hF' i hi), fun _ => ⟨fun h => ?_, fun _ => ?_⟩⟩⟩, fun h => absurd (of_decide_eq_false h) (by omega)⟩
    · rw [getD_nat, hp] at h; cases h
    · show _ = _
      rw [wrap64_id (by omega) (by omega)]; rfl
  refine q_slices_IndexFunc_____float32___float32_ h xs F n p ⟨fun hlt => ⟨?_, fun _ => ?_⟩, fun hge => ⟨?_, fun _ => ?_⟩⟩
  · have hlt := of_decide_eq_true hlt
    refine for_up (e := .ret) (xs.findIdx p) (fun i => h_slices_IndexFunc_____float32___float32__L0 xs F n p i) rfl (fun i hi => step i (by omega) (findIdx_not [] hi (by omega))) ?_
    refine q_slices_IndexFunc_____float32___float32__L0 _ _ _ _ _ ⟨fun _ => ⟨by omega, fun _ => ⟨(by rw [Int.toNat_natCast]; exact hF' _ hlt), fun _ => ⟨fun _ => rfl, fun h => ?_⟩⟩⟩, fun h => absurd (of_decide_eq_false h) (by omega)⟩
    rw [getD_nat, findIdx_is [] hlt] at h; cases h
  · have hlt := of_decide_eq_true hlt
    show _ = _
    simp [idxM, hlt]
  · have hge := of_decide_eq_false hge
    have he := findIdx_eq hge
    refine for_up (e := .exit 0) xs.length (fun i => h_slices_IndexFunc_____float32___float32__L0 xs F n p i) rfl (fun i hi => step i hi (findIdx_not [] (by omega) hi)) ?_
    exact q_slices_IndexFunc_____float32___float32__L0 _ _ _ _ _ ⟨fun h => absurd h (by simp), fun _ => rfl⟩
  · have hge := of_decide_eq_false hge
    show _ = _
    simp [idxM, hge]

theorem k_slices_ContainsFunc_____float32___float32_ {P : Program} {f g : FuncId} (h : Is_slices_ContainsFunc_____float32___float32_ P f g) (hg : C_slices_IndexFunc_____float32___float32_ P g) : C_slices_ContainsFunc_____float32___float32_ P f := by
  intro xs F n p hF hx
  refine q_slices_ContainsFunc_____float32___float32_ h xs F n p ⟨hg xs F n p hF hx, fun _ => ?_⟩
  show _ = _
  rw [idx_any]

theorem k_impl_areColumns {P : Program} {f F g : FuncId} (h : Is_impl_areColumns P f F g) (hF : C_impl_areColumns_1 P F) (hg : C_slices_ContainsFunc_____float32___float32_ P g) : C_impl_areColumns P f := by
  intro xss n hx hr hn
  refine q_impl_areColumns h xss n ⟨rfl, fun _ => ⟨fun h0 => ⟨fun h1 => ⟨hg xss F n _ (fun x hm => hF x n (hr x hm) hn) hx, fun _ => ?_⟩, fun h1 => ?_⟩, fun h0 => ?_⟩⟩
  · simp at h0 h1
    have h0 : 1 ≤ xss.length := by omega
    have h1 : xss.length ≤ 6 := by omega
    show AV.b _ = AV.b _
    congr 1
    rw [← List.not_all_eq_any_not, Bool.not_not]
    unfold colsM
    rw [decide_eq_true h0, decide_eq_true h1, Bool.true_and, Bool.true_and]
  · simp at h1
    have : ¬ xss.length ≤ 6 := by omega
    simp [T.ok, colsM, this]
  · simp at h0
    have : ¬ 1 ≤ xss.length := by omega
    simp only [T.ok, colsM, this, decide_false, Bool.false_and]

theorem allN_all {α : Type} (xs : List α) (d : α) (p : α → Bool) : (allN xs.length fun i => p (xs.getD i d)) = xs.all p := by
  rw [Bool.eq_iff_iff, allN_iff, List.all_eq_true]
  constructor
  · intro h x hx
    obtain ⟨i, hi, rfl⟩ := List.getElem_of_mem hx
    have := h i hi
    simpa [List.getD, hi] using this
  · intro h i hi
    refine h _ ?_
    simp [List.getD, hi]

theorem k_spec_l03Columns {P : Program} {f g : FuncId} (h : Is_spec_l03Columns P f g) (c1 : C_spec_l02Series P g) : C_spec_l03Columns P f := by
  intro xss hx hr
  refine q_spec_l03Columns h xss ⟨fun h0 => ?_, fun h0 => ⟨fun h1 => ?_, fun h1 => ?_⟩⟩
  · have h0 := of_decide_eq_true h0
    have : ¬ 1 ≤ xss.length := by omega
    simp only [T.ok, colsM, this, decide_false, Bool.false_and]
  · simp at h1
    have : ¬ xss.length ≤ 6 := by omega
    simp [T.ok, colsM, this]
  · have h0 := of_decide_eq_false h0
    have h1 := of_decide_eq_false h1
    have h0 : 1 ≤ xss.length := by omega
    have h1 : xss.length ≤ 6 := by omega
    have e : colsM xss (xss.getD 0 []).length = allN xss.length fun i => colP (xss.getD 0 []).length (xss.getD i []) := by
      rw [allN_all]; simp [colsM, h0, h1]
    rw [e]
    have go : ∀ i, i < xss.length → colP (xss.getD 0 []).length (xss.getD i []) = true → Exec (VCall P) ps_spec_l03Columns (b_spec_l03Columns_L0 g) (h_spec_l03Columns_L0 xss i) .normal (h_spec_l03Columns_L0 xss (i + 1 : Nat)) := by
      intro i hi hc
      refine q_spec_l03Columns_L0 _ _ ?_
      have a1 := c1 (xss.getD i []) (hr _ (row_mem _ _ hi))
      have hc : seriesM (xss.getD i []) = true ∧ (xss.getD i []).length = (xss.getD 0 []).length := by simpa [colP] using hc
      rw [Int.toNat_natCast, hc.1]
      rw [hc.1] at a1
      refine ⟨fun _ => ⟨by omega, fun _ => ⟨a1, fun _ => ⟨fun h => absurd h (by simp), fun _ => ⟨by omega, fun _ => ⟨by omega, fun _ => ⟨fun h => absurd h (by rw [hc.2]; simp), fun _ => ?_⟩⟩⟩⟩⟩⟩, fun h => absurd (of_decide_eq_false h) (by omega)⟩
      show _ = _
      rw [wrap64_id (by omega) (by omega)]; rfl
    refine ⟨fun h3 => ⟨?_, fun _ => ?_⟩, fun h3 => ⟨?_, fun _ => ?_⟩⟩
    · refine for_all (e := .exit 0) _ xss.length (fun i => h_spec_l03Columns_L0 xss i) h3 rfl go ?_
      exact q_spec_l03Columns_L0 _ _ ⟨fun h => absurd h (by simp), fun _ => rfl⟩
    · rw [h3]; rfl
    · refine for_one (e := .ret) _ xss.length (fun i => h_spec_l03Columns_L0 xss i) h3 rfl go (fun i hi hc => ?_)
      refine q_spec_l03Columns_L0 _ _ ?_
      have a1 := c1 (xss.getD i []) (hr _ (row_mem _ _ hi))
      rw [Int.toNat_natCast]
      refine ⟨fun _ => ⟨by omega, fun _ => ⟨a1, fun _ => ⟨fun h => rfl, fun h0 => ⟨by omega, fun _ => ⟨by omega, fun _ => ⟨fun h => rfl, fun h => ?_⟩⟩⟩⟩⟩⟩, fun h => absurd (of_decide_eq_false h) (by omega)⟩
      simp at h0 h
      simp [colP, h0] at hc; omega
    · rw [h3]; rfl

theorem cols_facts {xss : LL} {n : Nat} (h : colsM xss n = true) : (1 ≤ xss.length ∧ xss.length ≤ 6) ∧ (∀ i, i < xss.length → seriesM (xss.getD i []) = true ∧ (xss.getD i []).length = n) ∧ n ≤ 96 := by
  unfold colsM at h
  simp only [Bool.and_eq_true, decide_eq_true_eq, List.all_eq_true] at h
  have h2 : ∀ i, i < xss.length → seriesM (xss.getD i []) = true ∧ (xss.getD i []).length = n := fun i hi => by
    have := h.2.2 _ (row_mem xss i hi)
    simpa [colP] using this
  refine ⟨⟨h.1, h.2.1⟩, h2, ?_⟩
  have := h2 0 (by omega)
  have hl := series_len this.1
  omega
theorem fit_len (xss : LL) (ts : List Nat) : (fitM xss ts).length = (xss.getD 0 []).length := tab_len _ _

end Go.Proofs.LV
