/- Lines of frequency. -/
import Derived.Test.YtdffgjembkanoaaLvFnBB
namespace Go.Proofs.LV
open Go
set_option linter.unusedVariables false
set_option linter.unusedSimpArgs false

abbrev NP := Nat × Nat
abbrev LC := List (Nat × Nat)
abbrev PC (p : List Nat) (xs : List (Nat × Nat)) : AV := .sl (.par p) 0 (.c .f32 xs)
abbrev OC (n : Nat) (xs : List (Nat × Nat)) : AV := .sl (.own n) 0 (.c .f32 xs)
def finC (z : Nat × Nat) : Bool := finM z.1 && finM z.2
def finAllC (zs : List (Nat × Nat)) : Bool := zs.all finC
/-- a line -/
def lnQ (n : Nat) (k : Int) (i : Nat) : Nat := fneg .f64 (fdiv .f64 (fofi .f64 (k * i)) (fofi .f64 n))
def lnM (a : List Nat) (k : Int) (m : Nat) : Nat × Nat := accN (fun i z => (fadd .f32 z.1 (fmul .f32 (phM (lnQ a.length k i)).1 (a.getD i 0)), fadd .f32 z.2 (fmul .f32 (phM (lnQ a.length k i)).2 (a.getD i 0)))) m (0, 0)
def lnsM (a : List Nat) (m : Nat) : List (Nat × Nat) := tab m fun k => lnM a k a.length
def lnsOk (a : List Nat) : Bool := seriesM a && finAllC (lnsM a (a.length / 2 + 1))
open Go.IntKind (wrap)
-- FN impl_plus
def ps_impl_plus : List Nat := [0, 1, 4]
def b_impl_plus : VCode :=
 (.seq
 (.region false [
 ⟨some 4, .mv, [.k (.c .f32 0 0)], none⟩])
 (.seq
 (.region false [
 ⟨some 5, .mv, [.t 0], none⟩,
 ⟨some 6, .re, [.t 5], none⟩,
 ⟨some 7, .mv, [.t 1], none⟩,
 ⟨some 8, .re, [.t 7], none⟩,
 ⟨some 9, (.bin .add), [.t 6, .t 8], none⟩,
 ⟨some 10, .mv, [.t 0], none⟩,
 ⟨some 11, .im, [.t 10], none⟩,
 ⟨some 12, .mv, [.t 1], none⟩,
 ⟨some 13, .im, [.t 12], none⟩,
 ⟨some 14, (.bin .add), [.t 11, .t 13], none⟩,
 ⟨some 15, .cplx, [.t 9, .t 14], none⟩,
 ⟨some 4, .mv, [.t 15], none⟩])
 .ret))

abbrev Is_impl_plus (P : Program) (g_f : FuncId) : Prop := FnIs P g_f 16 [.t 4] (b_impl_plus)

abbrev C_impl_plus (P : Program) (g_f : FuncId) : Prop := ∀ (a : Nat) (b : Nat) (c : Nat) (d : Nat), VCall P g_f [.c .f32 a b, .c .f32 c d] (.c .f32 (fadd .f32 a c) (fadd .f32 b d))
def oc1_impl_plus (as : List AV) : T AV := match as with | [.c .f32 a b, .c .f32 c d] => .leaf (.c .f32 (fadd .f32 a c) (fadd .f32 b d)) | _ => .fail



theorem q_impl_plus {P : Program} {g_f : FuncId} (h_ : Is_impl_plus P g_f) (a : Nat) (b : Nat) (c : Nat) (d : Nat) (ht : T.ok (fun x_ => x_ = .c .f32 (fadd .f32 a c) (fadd .f32 b d)) (
 T.leaf (AV.c .f32 (fadd .f32 a c) (fadd .f32 b d)))) :
 VCall P g_f [.c .f32 a b, .c .f32 c d] (.c .f32 (fadd .f32 a c) (fadd .f32 b d)) := h_.call_of ps_impl_plus ⟨fun _ _ => .fail, fun _ _ => none⟩ (by kernel_rfl) ht

-- END impl_plus
-- FN impl_ScaleComplex
def ps_impl_ScaleComplex : List Nat := [0, 1, 4]
def b_impl_ScaleComplex : VCode :=
 (.seq
 (.region false [
 ⟨some 4, .mv, [.k (.c .f32 0 0)], none⟩])
 (.seq
 (.region false [
 ⟨some 5, .mv, [.t 0], none⟩,
 ⟨some 6, .re, [.t 5], none⟩,
 ⟨some 7, .mv, [.t 1], none⟩,
 ⟨some 8, (.bin .mul), [.t 6, .t 7], none⟩,
 ⟨some 9, .mv, [.t 0], none⟩,
 ⟨some 10, .im, [.t 9], none⟩,
 ⟨some 11, .mv, [.t 1], none⟩,
 ⟨some 12, (.bin .mul), [.t 10, .t 11], none⟩,
 ⟨some 13, .cplx, [.t 8, .t 12], none⟩,
 ⟨some 4, .mv, [.t 13], none⟩])
 .ret))

abbrev Is_impl_ScaleComplex (P : Program) (g_f : FuncId) : Prop := FnIs P g_f 14 [.t 4] (b_impl_ScaleComplex)

abbrev C_impl_ScaleComplex (P : Program) (g_f : FuncId) : Prop := ∀ (a : Nat) (b : Nat) (x : Nat), VCall P g_f [.c .f32 a b, .f .f32 x] (.c .f32 (fmul .f32 a x) (fmul .f32 b x))
def oc1_impl_ScaleComplex (as : List AV) : T AV := match as with | [.c .f32 a b, .f .f32 x] => .leaf (.c .f32 (fmul .f32 a x) (fmul .f32 b x)) | _ => .fail



theorem q_impl_ScaleComplex {P : Program} {g_f : FuncId} (h_ : Is_impl_ScaleComplex P g_f) (a : Nat) (b : Nat) (x : Nat) (ht : T.ok (fun x_ => x_ = .c .f32 (fmul .f32 a x) (fmul .f32 b x)) (
 T.leaf (AV.c .f32 (fmul .f32 a x) (fmul .f32 b x)))) :
 VCall P g_f [.c .f32 a b, .f .f32 x] (.c .f32 (fmul .f32 a x) (fmul .f32 b x)) := h_.call_of ps_impl_ScaleComplex ⟨fun _ _ => .fail, fun _ _ => none⟩ (by kernel_rfl) ht

-- END impl_ScaleComplex
-- FN spec_l01Scale
def ps_spec_l01Scale : List Nat := [0, 1, 4]
def b_spec_l01Scale : VCode :=
 (.seq
 (.region false [
 ⟨some 4, .mv, [.k (.c .f32 0 0)], none⟩])
 (.seq
 (.region false [
 ⟨some 5, .mv, [.t 0], none⟩,
 ⟨some 6, .re, [.t 5], none⟩,
 ⟨some 7, .mv, [.t 1], none⟩,
 ⟨some 8, (.bin .mul), [.t 6, .t 7], none⟩,
 ⟨some 9, .mv, [.t 0], none⟩,
 ⟨some 10, .im, [.t 9], none⟩,
 ⟨some 11, .mv, [.t 1], none⟩,
 ⟨some 12, (.bin .mul), [.t 10, .t 11], none⟩,
 ⟨some 13, .cplx, [.t 8, .t 12], none⟩,
 ⟨some 4, .mv, [.t 13], none⟩])
 .ret))

abbrev Is_spec_l01Scale (P : Program) (g_f : FuncId) : Prop := FnIs P g_f 14 [.t 4] (b_spec_l01Scale)

abbrev C_spec_l01Scale (P : Program) (g_f : FuncId) : Prop := ∀ (a : Nat) (b : Nat) (x : Nat), VCall P g_f [.c .f32 a b, .f .f32 x] (.c .f32 (fmul .f32 a x) (fmul .f32 b x))
def oc1_spec_l01Scale (as : List AV) : T AV := match as with | [.c .f32 a b, .f .f32 x] => .leaf (.c .f32 (fmul .f32 a x) (fmul .f32 b x)) | _ => .fail



theorem q_spec_l01Scale {P : Program} {g_f : FuncId} (h_ : Is_spec_l01Scale P g_f) (a : Nat) (b : Nat) (x : Nat) (ht : T.ok (fun x_ => x_ = .c .f32 (fmul .f32 a x) (fmul .f32 b x)) (
 T.leaf (AV.c .f32 (fmul .f32 a x) (fmul .f32 b x)))) :
 VCall P g_f [.c .f32 a b, .f .f32 x] (.c .f32 (fmul .f32 a x) (fmul .f32 b x)) := h_.call_of ps_spec_l01Scale ⟨fun _ _ => .fail, fun _ _ => none⟩ (by kernel_rfl) ht

-- END spec_l01Scale
-- FN impl_IsFiniteComplex
def ps_impl_IsFiniteComplex : List Nat := [0, 2]
def b_impl_IsFiniteComplex (gq0 : FuncId) : VCode :=
 (.seq
 (.region false [
 ⟨some 2, .mv, [.k (.b false)], none⟩])
 (.seq
 (.region false [
 ⟨some 3, .mv, [.t 0], none⟩,
 ⟨some 4, .re, [.t 3], none⟩,
 ⟨some 5, (.call gq0), [.t 4], none⟩,
 ⟨some 6, .mv, [.t 5], none⟩,
 ⟨some 7, .mv, [.t 0], some (6, true)⟩,
 ⟨some 8, .im, [.t 7], some (6, true)⟩,
 ⟨some 9, (.call gq0), [.t 8], some (6, true)⟩,
 ⟨some 10, .pick, [.t 6, .t 9, .k (.b false)], none⟩,
 ⟨some 2, .mv, [.t 10], none⟩])
 .ret))

abbrev Is_impl_IsFiniteComplex (P : Program) (g_f : FuncId) (gq0 : FuncId) : Prop := FnIs P g_f 11 [.t 2] (b_impl_IsFiniteComplex gq0)

abbrev C_impl_IsFiniteComplex (P : Program) (g_f : FuncId) : Prop := ∀ (a : Nat) (b : Nat), VCall P g_f [.c .f32 a b] (.b (finM a && finM b))
def oc1_impl_IsFiniteComplex (as : List AV) : T AV := match as with | [.c .f32 a b] => .leaf (.b (finM a && finM b)) | _ => .fail
def oc_impl_IsFiniteComplex (a : Nat) (b : Nat) (d : Nat) (as : List AV) : T AV := match d with | 5 => oc1_impl_IsFinite as | 9 => oc1_impl_IsFinite as | _ => .fail



theorem q_impl_IsFiniteComplex {P : Program} {g_f : FuncId} {gq0 : FuncId} (h_ : Is_impl_IsFiniteComplex P g_f gq0) (a : Nat) (b : Nat) (ht : T.ok (fun x_ => x_ = .b (finM a && finM b)) (
 T.ob ((VCall P) gq0 [AV.f .f32 a] (AV.b (finM a))) (T.ite (finM a) (T.ob ((VCall P) gq0 [AV.f .f32 b] (AV.b (finM b))) (T.leaf (AV.b (finM b)))) (T.leaf (AV.b false))))) :
 VCall P g_f [.c .f32 a b] (.b (finM a && finM b)) := h_.call_of ps_impl_IsFiniteComplex ⟨oc_impl_IsFiniteComplex a b, fun _ _ => none⟩ (by kernel_rfl) ht

-- END impl_IsFiniteComplex
-- FN spec_l01CFinite
def ps_spec_l01CFinite : List Nat := [0, 2]
def b_spec_l01CFinite (gq0 : FuncId) : VCode :=
 (.seq
 (.region false [
 ⟨some 2, .mv, [.k (.b false)], none⟩])
 (.seq
 (.region false [
 ⟨some 3, .mv, [.t 0], none⟩,
 ⟨some 4, .re, [.t 3], none⟩,
 ⟨some 5, (.call gq0), [.t 4], none⟩,
 ⟨some 6, .mv, [.t 5], none⟩,
 ⟨some 7, .mv, [.t 0], some (6, true)⟩,
 ⟨some 8, .im, [.t 7], some (6, true)⟩,
 ⟨some 9, (.call gq0), [.t 8], some (6, true)⟩,
 ⟨some 10, .pick, [.t 6, .t 9, .k (.b false)], none⟩,
 ⟨some 2, .mv, [.t 10], none⟩])
 .ret))

abbrev Is_spec_l01CFinite (P : Program) (g_f : FuncId) (gq0 : FuncId) : Prop := FnIs P g_f 11 [.t 2] (b_spec_l01CFinite gq0)

abbrev C_spec_l01CFinite (P : Program) (g_f : FuncId) : Prop := ∀ (a : Nat) (b : Nat), VCall P g_f [.c .f32 a b] (.b (finM a && finM b))
def oc_spec_l01CFinite (a : Nat) (b : Nat) (d : Nat) (as : List AV) : T AV := match d with | 5 => oc1_spec_l01Finite as | 9 => oc1_spec_l01Finite as | _ => .fail



theorem q_spec_l01CFinite {P : Program} {g_f : FuncId} {gq0 : FuncId} (h_ : Is_spec_l01CFinite P g_f gq0) (a : Nat) (b : Nat) (ht : T.ok (fun x_ => x_ = .b (finM a && finM b)) (
 T.ob ((VCall P) gq0 [AV.f .f32 a] (AV.b (finM a))) (T.ite (finM a) (T.ob ((VCall P) gq0 [AV.f .f32 b] (AV.b (finM b))) (T.leaf (AV.b (finM b)))) (T.leaf (AV.b false))))) :
 VCall P g_f [.c .f32 a b] (.b (finM a && finM b)) := h_.call_of ps_spec_l01CFinite ⟨oc_spec_l01CFinite a b, fun _ _ => none⟩ (by kernel_rfl) ht

-- END spec_l01CFinite
-- FN slices_IndexFunc___complex64_complex64_
def ps_slices_IndexFunc___complex64_complex64_ : List Nat := [0, 1, 4, 5, 7, 8, 9, 16]
def lv_slices_IndexFunc___complex64_complex64__L0 : List Nat := [0, 1, 7, 8]
def b_slices_IndexFunc___complex64_complex64__L0 : VCode :=
 (.seq
 (.region false [
 ⟨some 9, (.bin .lss), [.t 8, .t 7], none⟩])
 (.seq
 (.cond (.t 9)
 .skip
 (.exit 0))
 (.seq
 (.block 1
 (.seq
 (.region false [
 ⟨some 10, .mv, [.t 8], none⟩,
 ⟨some 5, .mv, [.t 10], none⟩])
 (.seq
 (.region false [
 ⟨some 11, .mv, [.t 1], none⟩,
 ⟨some 12, .mv, [.t 0], none⟩,
 ⟨some 13, .mv, [.t 5], none⟩,
 ⟨some 14, .iaddr, [.t 12, .t 13], none⟩,
 ⟨some 15, .load, [.t 14], none⟩,
 ⟨some 16, .callv, [.t 11, .t 15], none⟩])
 (.cond (.t 16)
 (.seq
 (.region false [
 ⟨some 17, .mv, [.t 5], none⟩,
 ⟨some 4, .mv, [.t 17], none⟩])
 .ret)
 .skip))))
 (.region false [
 ⟨some 18, (.bin .add), [.t 8, .k (.i .i64 1)], none⟩,
 ⟨some 8, .mv, [.t 18], none⟩]))))

def b_slices_IndexFunc___complex64_complex64_ : VCode :=
 (.seq
 (.region false [
 ⟨some 4, .mv, [.k (.i .i64 0)], none⟩])
 (.seq
 (.seq
 (.region false [
 ⟨some 6, .mv, [.t 0], none⟩,
 ⟨some 7, .len, [.t 6], none⟩,
 ⟨some 8, .mv, [.k (.i .i64 0)], none⟩])
 (.block 0 (.loop b_slices_IndexFunc___complex64_complex64__L0)))
 (.seq
 (.region false [
 ⟨some 4, .mv, [.k (.i .i64 (-1))], none⟩])
 .ret)))

abbrev Is_slices_IndexFunc___complex64_complex64_ (P : Program) (g_f : FuncId) : Prop := FnIs P g_f 19 [.t 4] (b_slices_IndexFunc___complex64_complex64_)

abbrev C_slices_IndexFunc___complex64_complex64_ (P : Program) (g_f : FuncId) : Prop := ∀ (xs : LC) (F : FuncId) (p : NP → Bool) (hF : ∀ a b, VCall P F [.c .f32 a b] (.b (p (a, b)))) (hx : xs.length ≤ maxLen), VCall P g_f [PC [0] xs, .fn F []] (.i .i64 (idxM p xs))
def oc_slices_IndexFunc___complex64_complex64_ (xs : LC) (F : FuncId) (p : NP → Bool) (d : Nat) (as : List AV) : T AV := match d with | 16 => (match as with | [.c _ x y] => .leaf (.b (p (x, y))) | _ => .fail) | _ => .fail
def h_slices_IndexFunc___complex64_complex64__L0 (xs : LC) (F : FuncId) (p : NP → Bool) (v8 : Int) : Env := [AV.sl (Tag.par [0]) 0 (Cont.c .f32 xs), AV.fn F []] ++ anys 5 ++ [AV.i .i64 (↑(List.length xs) : Int), .i .i64 v8] ++ anys 10

theorem q_slices_IndexFunc___complex64_complex64__L0 {VC : FuncId → List AV → AV → Prop} (xs : LC) (F : FuncId) (p : NP → Bool) (v8 : Int) {e_ : Ex} {σ_ : Env} (ht : T.ok (fun x_ => x_ = (e_, σ_)) (
 T.ite (decide (v8 < (↑(List.length xs) : Int)))
 (T.ob (0 ≤ v8 ∧ v8 < (↑(List.length xs) : Int))
 (T.ob
 (VC F [AV.c .f32 (Prod.fst (List.getD xs (Int.toNat v8) (0, 0))) (Prod.snd (List.getD xs (Int.toNat v8) (0, 0)))]
 (AV.b (p (Prod.fst (List.getD xs (Int.toNat v8) (0, 0)), Prod.snd (List.getD xs (Int.toNat v8) (0, 0))))))
 (T.ite (p (Prod.fst (List.getD xs (Int.toNat v8) (0, 0)), Prod.snd (List.getD xs (Int.toNat v8) (0, 0)))) (T.leaf (Ex.ret, anys 4 ++ AV.i .i64 v8 :: anys 14))
 (T.leaf (Ex.normal, h_slices_IndexFunc___complex64_complex64__L0 xs F p (wrap .i64 (v8 + 1)))))))
 (T.leaf (Ex.exit 0, h_slices_IndexFunc___complex64_complex64__L0 xs F p v8)))) :
 Exec VC ps_slices_IndexFunc___complex64_complex64_ (b_slices_IndexFunc___complex64_complex64__L0) (h_slices_IndexFunc___complex64_complex64__L0 xs F p v8) e_ σ_ := evL_of (lv := lv_slices_IndexFunc___complex64_complex64__L0) (rs := [4]) (O := ⟨oc_slices_IndexFunc___complex64_complex64_ xs F p, fun _ _ => none⟩) (by kernel_rfl) ht

theorem q_slices_IndexFunc___complex64_complex64_ {P : Program} {g_f : FuncId} (h_ : Is_slices_IndexFunc___complex64_complex64_ P g_f) (xs : LC) (F : FuncId) (p : NP → Bool) (ht : T.ok (fun x_ => x_ = .i .i64 (idxM p xs)) (
 T.ite (decide (List.findIdx p xs < List.length xs))
 (T.ob
 (Exec (VCall P) ps_slices_IndexFunc___complex64_complex64_ (VCode.block 0 (VCode.loop b_slices_IndexFunc___complex64_complex64__L0)) (h_slices_IndexFunc___complex64_complex64__L0 xs F p 0) Ex.ret
 (anys 4 ++ AV.i .i64 (↑(List.findIdx p xs) : Int) :: anys 14))
 (T.leaf (AV.i .i64 (↑(List.findIdx p xs) : Int))))
 (T.ob
 (Exec (VCall P) ps_slices_IndexFunc___complex64_complex64_ (VCode.block 0 (VCode.loop b_slices_IndexFunc___complex64_complex64__L0)) (h_slices_IndexFunc___complex64_complex64__L0 xs F p 0) Ex.normal
 (h_slices_IndexFunc___complex64_complex64__L0 xs F p (↑(List.length xs) : Int)))
 (T.leaf (AV.i .i64 (-1)))))) :
 VCall P g_f [PC [0] xs, .fn F []] (.i .i64 (idxM p xs)) := h_.call_of ps_slices_IndexFunc___complex64_complex64_ ⟨oc_slices_IndexFunc___complex64_complex64_ xs F p, fun id σ => match id with | 0 => some (lv_slices_IndexFunc___complex64_complex64__L0, .ite (decide (xs.findIdx p < xs.length)) (.leaf (.ret, ret1 19 4 (.i .i64 (xs.findIdx p)))) (.leaf (.normal, h_slices_IndexFunc___complex64_complex64__L0 xs F p xs.length))) | _ => none⟩ (by kernel_rfl) ht

-- END slices_IndexFunc___complex64_complex64_
-- FN slices_ContainsFunc___complex64_complex64_
def ps_slices_ContainsFunc___complex64_complex64_ : List Nat := [0, 1, 4]
def b_slices_ContainsFunc___complex64_complex64_ (gq0 : FuncId) : VCode :=
 (.seq
 (.region false [
 ⟨some 4, .mv, [.k (.b false)], none⟩])
 (.seq
 (.region false [
 ⟨some 5, .mv, [.t 0], none⟩,
 ⟨some 6, .mv, [.t 1], none⟩,
 ⟨some 7, (.call gq0), [.t 5, .t 6], none⟩,
 ⟨some 8, (.bin .geq), [.t 7, .k (.i .i64 0)], none⟩,
 ⟨some 4, .mv, [.t 8], none⟩])
 .ret))

abbrev Is_slices_ContainsFunc___complex64_complex64_ (P : Program) (g_f : FuncId) (gq0 : FuncId) : Prop := FnIs P g_f 9 [.t 4] (b_slices_ContainsFunc___complex64_complex64_ gq0)

abbrev C_slices_ContainsFunc___complex64_complex64_ (P : Program) (g_f : FuncId) : Prop := ∀ (xs : LC) (F : FuncId) (p : NP → Bool) (hF : ∀ a b, VCall P F [.c .f32 a b] (.b (p (a, b)))) (hx : xs.length ≤ maxLen), VCall P g_f [PC [0] xs, .fn F []] (.b (xs.any p))
def oc_slices_ContainsFunc___complex64_complex64_ (xs : LC) (F : FuncId) (p : NP → Bool) (d : Nat) (as : List AV) : T AV := match d with | 7 => .leaf (.i .i64 (idxM p xs)) | _ => .fail



theorem q_slices_ContainsFunc___complex64_complex64_ {P : Program} {g_f : FuncId} {gq0 : FuncId} (h_ : Is_slices_ContainsFunc___complex64_complex64_ P g_f gq0) (xs : LC) (F : FuncId) (p : NP → Bool) (ht : T.ok (fun x_ => x_ = .b (xs.any p)) (
 T.ob ((VCall P) gq0 [AV.sl (Tag.par [0]) 0 (Cont.c .f32 xs), AV.fn F []] (AV.i .i64 (idxM p xs))) (T.leaf (AV.b (decide (idxM p xs ≥ 0)))))) :
 VCall P g_f [PC [0] xs, .fn F []] (.b (xs.any p)) := h_.call_of ps_slices_ContainsFunc___complex64_complex64_ ⟨oc_slices_ContainsFunc___complex64_complex64_ xs F p, fun _ _ => none⟩ (by kernel_rfl) ht

-- END slices_ContainsFunc___complex64_complex64_
-- FN impl_areLines_1
def ps_impl_areLines_1 : List Nat := [0, 2]
def b_impl_areLines_1 (gq0 : FuncId) : VCode :=
 (.seq
 (.region false [
 ⟨some 2, .mv, [.k (.b false)], none⟩])
 (.seq
 (.region false [
 ⟨some 3, .mv, [.t 0], none⟩,
 ⟨some 4, (.call gq0), [.t 3], none⟩,
 ⟨some 5, .not, [.t 4], none⟩,
 ⟨some 2, .mv, [.t 5], none⟩])
 .ret))

abbrev Is_impl_areLines_1 (P : Program) (g_f : FuncId) (gq0 : FuncId) : Prop := FnIs P g_f 6 [.t 2] (b_impl_areLines_1 gq0)

abbrev C_impl_areLines_1 (P : Program) (g_f : FuncId) : Prop := ∀ (a : Nat) (b : Nat), VCall P g_f [.c .f32 a b] (.b (!(finM a && finM b)))
def oc_impl_areLines_1 (a : Nat) (b : Nat) (d : Nat) (as : List AV) : T AV := match d with | 4 => oc1_impl_IsFiniteComplex as | _ => .fail



theorem q_impl_areLines_1 {P : Program} {g_f : FuncId} {gq0 : FuncId} (h_ : Is_impl_areLines_1 P g_f gq0) (a : Nat) (b : Nat) (ht : T.ok (fun x_ => x_ = .b (!(finM a && finM b))) (
 T.ob ((VCall P) gq0 [AV.c .f32 a b] (AV.b (finM a && finM b))) (T.leaf (AV.b !(finM a && finM b))))) :
 VCall P g_f [.c .f32 a b] (.b (!(finM a && finM b))) := h_.call_of ps_impl_areLines_1 ⟨oc_impl_areLines_1 a b, fun _ _ => none⟩ (by kernel_rfl) ht

-- END impl_areLines_1
-- FN impl_areLines
def ps_impl_areLines : List Nat := [0, 2]
def b_impl_areLines (gq0 gq1 : FuncId) : VCode :=
 (.seq
 (.region false [
 ⟨some 2, .mv, [.k (.b false)], none⟩])
 (.seq
 (.region false [
 ⟨some 3, .mv, [.t 0], none⟩,
 ⟨some 4, (.call gq0), [.t 3, .k (.fn gq1 [])], none⟩,
 ⟨some 5, .not, [.t 4], none⟩,
 ⟨some 2, .mv, [.t 5], none⟩])
 .ret))

abbrev Is_impl_areLines (P : Program) (g_f : FuncId) (gq0 gq1 : FuncId) : Prop := FnIs P g_f 6 [.t 2] (b_impl_areLines gq0 gq1)

abbrev C_impl_areLines (P : Program) (g_f : FuncId) : Prop := ∀ (xs : LC) (hx : xs.length ≤ maxLen), VCall P g_f [PC [0] xs] (.b (finAllC xs))
def oc1_impl_areLines (as : List AV) : T AV := match as with | [.sl _ _ (.c _ xs)] => .leaf (.b (finAllC xs)) | _ => .fail
def oc_impl_areLines (xs : LC) (d : Nat) (as : List AV) : T AV := match d with | 4 => .leaf (.b (xs.any fun z => !finC z)) | _ => .fail



theorem q_impl_areLines {P : Program} {g_f : FuncId} {gq0 gq1 : FuncId} (h_ : Is_impl_areLines P g_f gq0 gq1) (xs : LC) (ht : T.ok (fun x_ => x_ = .b (finAllC xs)) (
 T.ob ((VCall P) gq0 [AV.sl (Tag.par [0]) 0 (Cont.c .f32 xs), AV.fn gq1 []] (AV.b (List.any xs fun (z : Nat × Nat) => !finC z)))
 (T.leaf (AV.b !List.any xs fun (z : Nat × Nat) => !finC z)))) :
 VCall P g_f [PC [0] xs] (.b (finAllC xs)) := h_.call_of ps_impl_areLines ⟨oc_impl_areLines xs, fun _ _ => none⟩ (by kernel_rfl) ht

-- END impl_areLines
-- FN impl_lineOf
def ps_impl_lineOf : List Nat := [0, 1, 4, 5, 6, 7, 8, 9, 10, 11]
def lv_impl_lineOf_L0 : List Nat := [0, 1, 5, 8, 9, 10]
def b_impl_lineOf_L0 (gq0 gq1 gq2 : FuncId) : VCode :=
 (.seq
 (.region false [
 ⟨some 11, (.bin .lss), [.t 10, .t 9], none⟩])
 (.seq
 (.cond (.t 11)
 .skip
 (.exit 0))
 (.seq
 (.block 1
 (.seq
 (.region false [
 ⟨some 12, .mv, [.t 10], none⟩,
 ⟨some 13, .iaddr, [.t 8, .t 10], none⟩,
 ⟨some 14, .load, [.t 13], none⟩,
 ⟨some 6, .mv, [.t 12], none⟩,
 ⟨some 7, .mv, [.t 14], none⟩])
 (.region false [
 ⟨some 15, .mv, [.t 5], none⟩,
 ⟨some 16, .mv, [.t 1], none⟩,
 ⟨some 17, .mv, [.t 6], none⟩,
 ⟨some 18, (.bin .mul), [.t 16, .t 17], none⟩,
 ⟨some 19, (.convF .f64), [.t 18], none⟩,
 ⟨some 20, .mv, [.t 0], none⟩,
 ⟨some 21, .len, [.t 20], none⟩,
 ⟨some 22, (.convF .f64), [.t 21], none⟩,
 ⟨some 23, (.bin .quo), [.t 19, .t 22], none⟩,
 ⟨some 24, .neg, [.t 23], none⟩,
 ⟨some 25, (.call gq0), [.t 24], none⟩,
 ⟨some 26, .mv, [.t 7], none⟩,
 ⟨some 27, (.call gq1), [.t 25, .t 26], none⟩,
 ⟨some 28, (.call gq2), [.t 15, .t 27], none⟩,
 ⟨some 5, .mv, [.t 28], none⟩])))
 (.region false [
 ⟨some 29, (.bin .add), [.t 10, .k (.i .i64 1)], none⟩,
 ⟨some 10, .mv, [.t 29], none⟩]))))

def b_impl_lineOf (gq0 gq1 gq2 : FuncId) : VCode :=
 (.seq
 (.region false [
 ⟨some 4, .mv, [.k (.c .f32 0 0)], none⟩])
 (.seq
 (.region false [
 ⟨some 5, .mv, [.k (.c .f32 0 0)], none⟩])
 (.seq
 (.seq
 (.region false [
 ⟨some 8, .mv, [.t 0], none⟩,
 ⟨some 9, .len, [.t 8], none⟩,
 ⟨some 10, .mv, [.k (.i .i64 0)], none⟩])
 (.block 0 (.loop (b_impl_lineOf_L0 gq0 gq1 gq2))))
 (.seq
 (.region false [
 ⟨some 30, .mv, [.t 5], none⟩,
 ⟨some 4, .mv, [.t 30], none⟩])
 .ret))))

abbrev Is_impl_lineOf (P : Program) (g_f : FuncId) (gq0 gq1 gq2 : FuncId) : Prop := FnIs P g_f 31 [.t 4] (b_impl_lineOf gq0 gq1 gq2)

abbrev C_impl_lineOf (P : Program) (g_f : FuncId) : Prop := ∀ (a : List Nat) (k : Int) (hx : a.length ≤ 96) (hk : 0 ≤ k ∧ k ≤ 96), VCall P g_f [PS [0] .f32 a, .i .i64 k] (.c .f32 (lnM a k a.length).1 (lnM a k a.length).2)
def oc1_impl_lineOf (as : List AV) : T AV := match as with | [.sl _ _ (.f .f32 a), .i .i64 k] => .leaf (.c .f32 (lnM a k a.length).1 (lnM a k a.length).2) | _ => .fail
def oc_impl_lineOf (a : List Nat) (k : Int) (d : Nat) (as : List AV) : T AV := match d with | 25 => oc1_impl_PhasorOf as | 27 => oc1_impl_ScaleComplex as | 28 => oc1_impl_plus as | _ => .fail
def h_impl_lineOf_L0 (a : List Nat) (k : Int) (sumR : Nat) (sumI : Nat) (v10 : Int) : Env := [AV.sl (Tag.par [0]) 0 (Cont.f .f32 a), AV.i .i64 k, .any, .any, .any, .c .f32 sumR sumI, .any, .any, AV.sl (Tag.par [0]) 0 (Cont.f .f32 a), AV.i .i64 (↑(List.length a) : Int), .i .i64 v10] ++ anys 20

theorem q_impl_lineOf_L0 {VC : FuncId → List AV → AV → Prop} {gq0 gq1 gq2 : FuncId} (a : List Nat) (k : Int) (sumR : Nat) (sumI : Nat) (v10 : Int) {e_ : Ex} {σ_ : Env} (ht : T.ok (fun x_ => x_ = (e_, σ_)) (
 T.ite (decide (v10 < (↑(List.length a) : Int)))
 (T.ob (0 ≤ v10 ∧ v10 < (↑(List.length a) : Int))
 (T.ob True
 (T.ob True
 (T.ob True
 (T.ob
 (VC gq0 [AV.f .f64 (fneg .f64 (fdiv .f64 (fofi .f64 (wrap .i64 (k * v10))) (fofi .f64 (↑(List.length a) : Int))))]
 (AV.c .f32 (Prod.fst (phM (fneg .f64 (fdiv .f64 (fofi .f64 (wrap .i64 (k * v10))) (fofi .f64 (↑(Cont.len (Cont.f .f32 a)) : Int))))))
 (Prod.snd (phM (fneg .f64 (fdiv .f64 (fofi .f64 (wrap .i64 (k * v10))) (fofi .f64 (↑(Cont.len (Cont.f .f32 a)) : Int))))))))
 (T.ob
 (VC gq1
 [AV.c .f32 (Prod.fst (phM (fneg .f64 (fdiv .f64 (fofi .f64 (wrap .i64 (k * v10))) (fofi .f64 (↑(Cont.len (Cont.f .f32 a)) : Int))))))
 (Prod.snd (phM (fneg .f64 (fdiv .f64 (fofi .f64 (wrap .i64 (k * v10))) (fofi .f64 (↑(Cont.len (Cont.f .f32 a)) : Int)))))),
 AV.f .f32 (List.getD a (Int.toNat v10) 0)]
 (AV.c .f32
 (fmul .f32 (Prod.fst (phM (fneg .f64 (fdiv .f64 (fofi .f64 (wrap .i64 (k * v10))) (fofi .f64 (↑(Cont.len (Cont.f .f32 a)) : Int))))))
 (List.getD a (Int.toNat v10) 0))
 (fmul .f32 (Prod.snd (phM (fneg .f64 (fdiv .f64 (fofi .f64 (wrap .i64 (k * v10))) (fofi .f64 (↑(Cont.len (Cont.f .f32 a)) : Int))))))
 (List.getD a (Int.toNat v10) 0))))
 (T.ob
 (VC gq2
 [AV.c .f32 sumR sumI,
 AV.c .f32
 (fmul .f32
 (Prod.fst (phM (fneg .f64 (fdiv .f64 (fofi .f64 (wrap .i64 (k * v10))) (fofi .f64 (↑(Cont.len (Cont.f .f32 a)) : Int))))))
 (List.getD a (Int.toNat v10) 0))
 (fmul .f32
 (Prod.snd (phM (fneg .f64 (fdiv .f64 (fofi .f64 (wrap .i64 (k * v10))) (fofi .f64 (↑(Cont.len (Cont.f .f32 a)) : Int))))))
 (List.getD a (Int.toNat v10) 0))]
 (AV.c .f32
 (fadd .f32 sumR
 (fmul .f32
 (Prod.fst (phM (fneg .f64 (fdiv .f64 (fofi .f64 (wrap .i64 (k * v10))) (fofi .f64 (↑(Cont.len (Cont.f .f32 a)) : Int))))))
 (List.getD a (Int.toNat v10) 0)))
 (fadd .f32 sumI
 (fmul .f32
 (Prod.snd (phM (fneg .f64 (fdiv .f64 (fofi .f64 (wrap .i64 (k * v10))) (fofi .f64 (↑(Cont.len (Cont.f .f32 a)) : Int))))))
 (List.getD a (Int.toNat v10) 0)))))
 (T.leaf
 (Ex.normal,
 h_impl_lineOf_L0 a k
 (fadd .f32 sumR
 (fmul .f32
 (Prod.fst (phM (fneg .f64 (fdiv .f64 (fofi .f64 (wrap .i64 (k * v10))) (fofi .f64 (↑(Cont.len (Cont.f .f32 a)) : Int))))))
 (List.getD a (Int.toNat v10) 0)))
 (fadd .f32 sumI
 (fmul .f32
 (Prod.snd (phM (fneg .f64 (fdiv .f64 (fofi .f64 (wrap .i64 (k * v10))) (fofi .f64 (↑(Cont.len (Cont.f .f32 a)) : Int))))))
 (List.getD a (Int.toNat v10) 0)))
 (wrap .i64 (v10 + 1)))))))))))
 (T.leaf (Ex.exit 0, h_impl_lineOf_L0 a k sumR sumI v10)))) :
 Exec VC ps_impl_lineOf (b_impl_lineOf_L0 gq0 gq1 gq2) (h_impl_lineOf_L0 a k sumR sumI v10) e_ σ_ := evL_of (lv := lv_impl_lineOf_L0) (rs := [4]) (O := ⟨oc_impl_lineOf a k, fun _ _ => none⟩) (by kernel_rfl) ht

theorem q_impl_lineOf {P : Program} {g_f : FuncId} {gq0 gq1 gq2 : FuncId} (h_ : Is_impl_lineOf P g_f gq0 gq1 gq2) (a : List Nat) (k : Int) (ht : T.ok (fun x_ => x_ = .c .f32 (lnM a k a.length).1 (lnM a k a.length).2) (
 T.ob
 (Exec (VCall P) ps_impl_lineOf (VCode.block 0 (VCode.loop (b_impl_lineOf_L0 gq0 gq1 gq2))) (h_impl_lineOf_L0 a k 0 0 0) Ex.normal
 (h_impl_lineOf_L0 a k (Prod.fst (lnM a k (List.length a))) (Prod.snd (lnM a k (List.length a))) (↑(List.length a) : Int)))
 (T.leaf (AV.c .f32 (Prod.fst (lnM a k (List.length a))) (Prod.snd (lnM a k (List.length a))))))) :
 VCall P g_f [PS [0] .f32 a, .i .i64 k] (.c .f32 (lnM a k a.length).1 (lnM a k a.length).2) := h_.call_of ps_impl_lineOf ⟨oc_impl_lineOf a k, fun id σ => match id with | 0 => some (lv_impl_lineOf_L0, .leaf (.normal, h_impl_lineOf_L0 a k (lnM a k a.length).1 (lnM a k a.length).2 a.length)) | _ => none⟩ (by kernel_rfl) ht

-- END impl_lineOf
-- FN spec_l03Line
def ps_spec_l03Line : List Nat := [0, 1, 4, 5, 6, 7, 9, 10, 11]
def lv_spec_l03Line_L0 : List Nat := [0, 1, 5, 9, 10]
def b_spec_l03Line_L0 (gq0 gq1 : FuncId) : VCode :=
 (.seq
 (.region false [
 ⟨some 11, (.bin .lss), [.t 10, .t 9], none⟩])
 (.seq
 (.cond (.t 11)
 .skip
 (.exit 0))
 (.seq
 (.block 1
 (.seq
 (.region false [
 ⟨some 12, .mv, [.t 10], none⟩,
 ⟨some 6, .mv, [.t 12], none⟩])
 (.seq
 (.region false [
 ⟨some 13, .mv, [.t 1], none⟩,
 ⟨some 14, .mv, [.t 6], none⟩,
 ⟨some 15, (.bin .mul), [.t 13, .t 14], none⟩,
 ⟨some 16, (.convF .f64), [.t 15], none⟩,
 ⟨some 17, .mv, [.t 0], none⟩,
 ⟨some 18, .len, [.t 17], none⟩,
 ⟨some 19, (.convF .f64), [.t 18], none⟩,
 ⟨some 20, (.bin .quo), [.t 16, .t 19], none⟩,
 ⟨some 21, .neg, [.t 20], none⟩,
 ⟨some 7, .mv, [.t 21], none⟩])
 (.region true [
 ⟨some 22, .mv, [.t 5], none⟩,
 ⟨some 23, .mv, [.t 7], none⟩,
 ⟨some 24, (.call gq0), [.t 23], none⟩,
 ⟨some 25, .mv, [.t 0], none⟩,
 ⟨some 26, .mv, [.t 6], none⟩,
 ⟨some 27, .iaddr, [.t 25, .t 26], none⟩,
 ⟨some 28, .load, [.t 27], none⟩,
 ⟨some 29, (.call gq1), [.t 24, .t 28], none⟩,
 ⟨some 30, (.bin .add), [.t 22, .t 29], none⟩,
 ⟨some 5, .mv, [.t 30], none⟩]))))
 (.region false [
 ⟨some 31, (.bin .add), [.t 10, .k (.i .i64 1)], none⟩,
 ⟨some 10, .mv, [.t 31], none⟩]))))

def b_spec_l03Line (gq0 gq1 : FuncId) : VCode :=
 (.seq
 (.region false [
 ⟨some 4, .mv, [.k (.c .f32 0 0)], none⟩])
 (.seq
 (.region false [
 ⟨some 5, .mv, [.k (.c .f32 0 0)], none⟩])
 (.seq
 (.seq
 (.region false [
 ⟨some 8, .mv, [.t 0], none⟩,
 ⟨some 9, .len, [.t 8], none⟩,
 ⟨some 10, .mv, [.k (.i .i64 0)], none⟩])
 (.block 0 (.loop (b_spec_l03Line_L0 gq0 gq1))))
 (.seq
 (.region false [
 ⟨some 32, .mv, [.t 5], none⟩,
 ⟨some 4, .mv, [.t 32], none⟩])
 .ret))))

abbrev Is_spec_l03Line (P : Program) (g_f : FuncId) (gq0 gq1 : FuncId) : Prop := FnIs P g_f 33 [.t 4] (b_spec_l03Line gq0 gq1)

abbrev C_spec_l03Line (P : Program) (g_f : FuncId) : Prop := ∀ (a : List Nat) (k : Int) (hx : a.length ≤ 96) (hk : 0 ≤ k ∧ k ≤ 96), VCall P g_f [PS [0] .f32 a, .i .i64 k] (.c .f32 (lnM a k a.length).1 (lnM a k a.length).2)
def oc_spec_l03Line (a : List Nat) (k : Int) (d : Nat) (as : List AV) : T AV := match d with | 24 => oc1_spec_l01Phasor as | 29 => oc1_spec_l01Scale as | _ => .fail
def h_spec_l03Line_L0 (a : List Nat) (k : Int) (sumR : Nat) (sumI : Nat) (v10 : Int) : Env := [AV.sl (Tag.par [0]) 0 (Cont.f .f32 a), AV.i .i64 k, .any, .any, .any, .c .f32 sumR sumI, .any, .any, .any, AV.i .i64 (↑(List.length a) : Int), .i .i64 v10] ++ anys 22

theorem q_spec_l03Line_L0 {VC : FuncId → List AV → AV → Prop} {gq0 gq1 : FuncId} (a : List Nat) (k : Int) (sumR : Nat) (sumI : Nat) (v10 : Int) {e_ : Ex} {σ_ : Env} (ht : T.ok (fun x_ => x_ = (e_, σ_)) (
 T.ite (decide (v10 < (↑(List.length a) : Int)))
 (T.ob True
 (T.ob True
 (T.ob True
 (T.ob
 (VC gq0 [AV.f .f64 (fneg .f64 (fdiv .f64 (fofi .f64 (wrap .i64 (k * v10))) (fofi .f64 (↑(List.length a) : Int))))]
 (AV.c .f32 (Prod.fst (phM (fneg .f64 (fdiv .f64 (fofi .f64 (wrap .i64 (k * v10))) (fofi .f64 (↑(Cont.len (Cont.f .f32 a)) : Int))))))
 (Prod.snd (phM (fneg .f64 (fdiv .f64 (fofi .f64 (wrap .i64 (k * v10))) (fofi .f64 (↑(Cont.len (Cont.f .f32 a)) : Int))))))))
 (T.ob (0 ≤ v10 ∧ v10 < (↑(List.length a) : Int))
 (T.ob
 (VC gq1
 [AV.c .f32 (Prod.fst (phM (fneg .f64 (fdiv .f64 (fofi .f64 (wrap .i64 (k * v10))) (fofi .f64 (↑(Cont.len (Cont.f .f32 a)) : Int))))))
 (Prod.snd (phM (fneg .f64 (fdiv .f64 (fofi .f64 (wrap .i64 (k * v10))) (fofi .f64 (↑(Cont.len (Cont.f .f32 a)) : Int)))))),
 AV.f .f32 (List.getD a (Int.toNat v10) 0)]
 (AV.c .f32
 (fmul .f32 (Prod.fst (phM (fneg .f64 (fdiv .f64 (fofi .f64 (wrap .i64 (k * v10))) (fofi .f64 (↑(Cont.len (Cont.f .f32 a)) : Int))))))
 (List.getD a (Int.toNat v10) 0))
 (fmul .f32 (Prod.snd (phM (fneg .f64 (fdiv .f64 (fofi .f64 (wrap .i64 (k * v10))) (fofi .f64 (↑(Cont.len (Cont.f .f32 a)) : Int))))))
 (List.getD a (Int.toNat v10) 0))))
 (T.leaf
 (Ex.normal,
 h_spec_l03Line_L0 a k
 (fadd .f32 sumR
 (fmul .f32
 (Prod.fst (phM (fneg .f64 (fdiv .f64 (fofi .f64 (wrap .i64 (k * v10))) (fofi .f64 (↑(Cont.len (Cont.f .f32 a)) : Int))))))
 (List.getD a (Int.toNat v10) 0)))
 (fadd .f32 sumI
 (fmul .f32
 (Prod.snd (phM (fneg .f64 (fdiv .f64 (fofi .f64 (wrap .i64 (k * v10))) (fofi .f64 (↑(Cont.len (Cont.f .f32 a)) : Int))))))
 (List.getD a (Int.toNat v10) 0)))
 (wrap .i64 (v10 + 1))))))))))
 (T.leaf (Ex.exit 0, h_spec_l03Line_L0 a k sumR sumI v10)))) :
 Exec VC ps_spec_l03Line (b_spec_l03Line_L0 gq0 gq1) (h_spec_l03Line_L0 a k sumR sumI v10) e_ σ_ := evL_of (lv := lv_spec_l03Line_L0) (rs := [4]) (O := ⟨oc_spec_l03Line a k, fun _ _ => none⟩) (by kernel_rfl) ht

theorem q_spec_l03Line {P : Program} {g_f : FuncId} {gq0 gq1 : FuncId} (h_ : Is_spec_l03Line P g_f gq0 gq1) (a : List Nat) (k : Int) (ht : T.ok (fun x_ => x_ = .c .f32 (lnM a k a.length).1 (lnM a k a.length).2) (
 T.ob
 (Exec (VCall P) ps_spec_l03Line (VCode.block 0 (VCode.loop (b_spec_l03Line_L0 gq0 gq1))) (h_spec_l03Line_L0 a k 0 0 0) Ex.normal
 (h_spec_l03Line_L0 a k (Prod.fst (lnM a k (List.length a))) (Prod.snd (lnM a k (List.length a))) (↑(List.length a) : Int)))
 (T.leaf (AV.c .f32 (Prod.fst (lnM a k (List.length a))) (Prod.snd (lnM a k (List.length a))))))) :
 VCall P g_f [PS [0] .f32 a, .i .i64 k] (.c .f32 (lnM a k a.length).1 (lnM a k a.length).2) := h_.call_of ps_spec_l03Line ⟨oc_spec_l03Line a k, fun id σ => match id with | 0 => some (lv_spec_l03Line_L0, .leaf (.normal, h_spec_l03Line_L0 a k (lnM a k a.length).1 (lnM a k a.length).2 a.length)) | _ => none⟩ (by kernel_rfl) ht

-- END spec_l03Line
-- FN impl_LinesOf
def ps_impl_LinesOf : List Nat := [0, 2, 3, 4, 5, 8, 13, 14, 15, 26]
def lv_impl_LinesOf_L0 : List Nat := [0, 4, 13, 14]
def b_impl_LinesOf_L0 (gq0 gq1 gq2 : FuncId) : VCode :=
 (.seq
 (.region false [
 ⟨some 15, (.bin .lss), [.t 14, .t 13], none⟩])
 (.seq
 (.cond (.t 15)
 .skip
 (.exit 0))
 (.seq
 (.block 1
 (.seq
 (.region false [
 ⟨some 16, .mv, [.t 14], none⟩,
 ⟨some 5, .mv, [.t 16], none⟩])
 (.region false [
 ⟨some 17, .mv, [.t 4], none⟩,
 ⟨some 18, .mv, [.t 0], none⟩,
 ⟨some 19, .mv, [.t 5], none⟩,
 ⟨some 20, (.call gq1), [.t 18, .t 19], none⟩,
 ⟨some 21, (.lit true (.c .f32 [])), [.t 20], none⟩,
 ⟨some 22, .app, [.t 17, .t 21], none⟩,
 ⟨some 4, .mv, [.t 22], none⟩])))
 (.region false [
 ⟨some 23, (.bin .add), [.t 14, .k (.i .i64 1)], none⟩,
 ⟨some 14, .mv, [.t 23], none⟩]))))

def b_impl_LinesOf (gq0 gq1 gq2 : FuncId) : VCode :=
 (.seq
 (.region false [
 ⟨some 2, (.nilsl (.c .f32 [])), [], none⟩,
 ⟨some 3, .mv, [.k (.b false)], none⟩])
 (.seq
 (.seq
 (.region false [
 ⟨some 6, .mv, [.t 0], none⟩,
 ⟨some 7, (.call gq0), [.t 6], none⟩,
 ⟨some 8, .not, [.t 7], none⟩])
 (.cond (.t 8)
 (.seq
 (.region false [
 ⟨some 2, (.nilsl (.c .f32 [])), [], none⟩,
 ⟨some 3, .mv, [.k (.b false)], none⟩])
 .ret)
 .skip))
 (.seq
 (.region false [
 ⟨some 9, (.lit true (.c .f32 [])), [], none⟩,
 ⟨some 4, .mv, [.t 9], none⟩])
 (.seq
 (.seq
 (.region false [
 ⟨some 10, .mv, [.t 0], none⟩,
 ⟨some 11, .len, [.t 10], none⟩,
 ⟨some 12, (.bin .quo), [.t 11, .k (.i .i64 2)], none⟩,
 ⟨some 13, (.bin .add), [.t 12, .k (.i .i64 1)], none⟩,
 ⟨some 14, .mv, [.k (.i .i64 0)], none⟩])
 (.block 0 (.loop (b_impl_LinesOf_L0 gq0 gq1 gq2))))
 (.seq
 (.seq
 (.region false [
 ⟨some 24, .mv, [.t 4], none⟩,
 ⟨some 25, (.call gq2), [.t 24], none⟩,
 ⟨some 26, .not, [.t 25], none⟩])
 (.cond (.t 26)
 (.seq
 (.region false [
 ⟨some 2, (.nilsl (.c .f32 [])), [], none⟩,
 ⟨some 3, .mv, [.k (.b false)], none⟩])
 .ret)
 .skip))
 (.seq
 (.region false [
 ⟨some 27, .mv, [.t 4], none⟩,
 ⟨some 2, .mv, [.t 27], none⟩,
 ⟨some 3, .mv, [.k (.b true)], none⟩])
 .ret))))))

abbrev Is_impl_LinesOf (P : Program) (g_f : FuncId) (gq0 gq1 gq2 : FuncId) : Prop := FnIs P g_f 28 [.t 2, .t 3] (b_impl_LinesOf gq0 gq1 gq2)

abbrev C_impl_LinesOf (P : Program) (g_f : FuncId) : Prop := ∀ (a : List Nat) (hx : a.length ≤ maxLen), VCall P g_f [PS [0] .f32 a] (.tup [OC 0 (if lnsOk a = true then lnsM a (a.length / 2 + 1) else []), .b (lnsOk a)])
def oc_impl_LinesOf (a : List Nat) (d : Nat) (as : List AV) : T AV := match d with | 7 => oc1_impl_IsSeries as | 20 => oc1_impl_lineOf as | 25 => oc1_impl_areLines as | _ => .fail
def h_impl_LinesOf_L0 (a : List Nat) (out : LC) (v14 : Int) : Env := [AV.sl (Tag.par [0]) 0 (Cont.f .f32 a), .any, .any, .any, .sl (Tag.own 72) 0 (.c .f32 out)] ++ anys 8 ++ [AV.i .i64 (wrap .i64 (wrap .i64 (Int.tdiv (↑(List.length a) : Int) 2) + 1)), .i .i64 v14] ++ anys 13

theorem q_impl_LinesOf_L0 {VC : FuncId → List AV → AV → Prop} {gq0 gq1 gq2 : FuncId} (a : List Nat) (out : LC) (v14 : Int) {e_ : Ex} {σ_ : Env} (ht : T.ok (fun x_ => x_ = (e_, σ_)) (
 T.ite (decide (v14 < wrap .i64 (wrap .i64 (Int.tdiv (↑(List.length a) : Int) 2) + 1)))
 (T.ob (VC gq1 [AV.sl (Tag.par [0]) 0 (Cont.f .f32 a), AV.i .i64 v14] (AV.c .f32 (Prod.fst (lnM a v14 (List.length a))) (Prod.snd (lnM a v14 (List.length a)))))
 (T.ob (List.length out + List.length [(Prod.fst (lnM a v14 (List.length a)), Prod.snd (lnM a v14 (List.length a)))] ≤ 4294967296)
 (T.leaf (Ex.normal, h_impl_LinesOf_L0 a (out ++ [(Prod.fst (lnM a v14 (List.length a)), Prod.snd (lnM a v14 (List.length a)))]) (wrap .i64 (v14 + 1))))))
 (T.leaf (Ex.exit 0, h_impl_LinesOf_L0 a out v14)))) :
 Exec VC ps_impl_LinesOf (b_impl_LinesOf_L0 gq0 gq1 gq2) (h_impl_LinesOf_L0 a out v14) e_ σ_ := evL_of (lv := lv_impl_LinesOf_L0) (rs := [2, 3]) (O := ⟨oc_impl_LinesOf a, fun _ _ => none⟩) (by kernel_rfl) ht

theorem q_impl_LinesOf {P : Program} {g_f : FuncId} {gq0 gq1 gq2 : FuncId} (h_ : Is_impl_LinesOf P g_f gq0 gq1 gq2) (a : List Nat) (ht : T.ok (fun x_ => x_ = .tup [OC 0 (if lnsOk a = true then lnsM a (a.length / 2 + 1) else []), .b (lnsOk a)]) (
 T.ob ((VCall P) gq0 [AV.sl (Tag.par [0]) 0 (Cont.f .f32 a)] (AV.b (seriesM a)))
 (T.ite (!seriesM a) (T.leaf (AV.tup [AV.sl (Tag.own 0) 0 (Cont.c .f32 (List.take 0 (List.drop 0 []))), AV.b false]))
 (T.ob ((2 : Int) ≠ 0)
 (T.ob
 (Exec (VCall P) ps_impl_LinesOf (VCode.block 0 (VCode.loop (b_impl_LinesOf_L0 gq0 gq1 gq2))) (h_impl_LinesOf_L0 a [] 0) Ex.normal
 (h_impl_LinesOf_L0 a (lnsM a (List.length a / 2 + 1)) ((↑(List.length a) : Int) / 2 + 1)))
 (T.ob ((VCall P) gq2 [AV.sl (Tag.par [0]) 0 (Cont.c .f32 (lnsM a (List.length a / 2 + 1)))] (AV.b (finAllC (lnsM a (List.length a / 2 + 1)))))
 (T.ite (!finAllC (lnsM a (List.length a / 2 + 1))) (T.leaf (AV.tup [AV.sl (Tag.own 0) 0 (Cont.c .f32 (List.take 0 (List.drop 0 []))), AV.b false]))
 (T.leaf (AV.tup [AV.sl (Tag.own 0) 0 (Cont.c .f32 (lnsM a (List.length a / 2 + 1))), AV.b true]))))))))) :
 VCall P g_f [PS [0] .f32 a] (.tup [OC 0 (if lnsOk a = true then lnsM a (a.length / 2 + 1) else []), .b (lnsOk a)]) := h_.call_of ps_impl_LinesOf ⟨oc_impl_LinesOf a, fun id σ => match id with | 0 => some (lv_impl_LinesOf_L0, .leaf (.normal, h_impl_LinesOf_L0 a (lnsM a (a.length / 2 + 1)) (a.length / 2 + 1))) | _ => none⟩ (by kernel_rfl) ht

-- END impl_LinesOf


theorem k_impl_plus {P : Program} {f : FuncId} (h : Is_impl_plus P f) : C_impl_plus P f := by
  intro a b c d
  refine q_impl_plus h a b c d ?_
  repeat' (first | with_reducible refine T.ok_ob ?_ (fun _ => ?_) | with_reducible refine T.ok_ite (fun _ => ?_) (fun _ => ?_) | with_reducible refine T.ok_leaf ?_)
  all_goals first | with_reducible rfl | with_reducible assumption | contradiction | exact fconvOk_32_64 _ | assumption | exact rfl | (simp_all []; done) | (simp_all [T.ok]; omega)

theorem k_impl_ScaleComplex {P : Program} {f : FuncId} (h : Is_impl_ScaleComplex P f) : C_impl_ScaleComplex P f := by
  intro a b x
  refine q_impl_ScaleComplex h a b x ?_
  repeat' (first | with_reducible refine T.ok_ob ?_ (fun _ => ?_) | with_reducible refine T.ok_ite (fun _ => ?_) (fun _ => ?_) | with_reducible refine T.ok_leaf ?_)
  all_goals first | with_reducible rfl | with_reducible assumption | contradiction | exact fconvOk_32_64 _ | assumption | exact rfl | (simp_all []; done) | (simp_all [T.ok]; omega)

theorem k_spec_l01Scale {P : Program} {f : FuncId} (h : Is_spec_l01Scale P f) : C_spec_l01Scale P f := by
  intro a b x
  refine q_spec_l01Scale h a b x ?_
  repeat' (first | with_reducible refine T.ok_ob ?_ (fun _ => ?_) | with_reducible refine T.ok_ite (fun _ => ?_) (fun _ => ?_) | with_reducible refine T.ok_leaf ?_)
  all_goals first | with_reducible rfl | with_reducible assumption | contradiction | exact fconvOk_32_64 _ | assumption | exact rfl | (simp_all []; done) | (simp_all [T.ok]; omega)

theorem k_impl_IsFiniteComplex {P : Program} {f g1 : FuncId} (h : Is_impl_IsFiniteComplex P f g1) (c1 : C_impl_IsFinite P g1) : C_impl_IsFiniteComplex P f := by
  intro a b
  refine q_impl_IsFiniteComplex h a b ?_
  cases ha : finM a
  · repeat' (first | with_reducible refine T.ok_ob ?_ (fun _ => ?_) | with_reducible refine T.ok_ite (fun _ => ?_) (fun _ => ?_) | with_reducible refine T.ok_leaf ?_)
    all_goals first | exact ha ▸ c1 _ | contradiction | rfl
  · repeat' (first | with_reducible refine T.ok_ob ?_ (fun _ => ?_) | with_reducible refine T.ok_ite (fun _ => ?_) (fun _ => ?_) | with_reducible refine T.ok_leaf ?_)
    all_goals first | exact ha ▸ c1 _ | exact c1 _ | contradiction | rfl
theorem k_spec_l01CFinite {P : Program} {f g1 : FuncId} (h : Is_spec_l01CFinite P f g1) (c1 : C_spec_l01Finite P g1) : C_spec_l01CFinite P f := by
  intro a b
  refine q_spec_l01CFinite h a b ?_
  cases ha : finM a
  · repeat' (first | with_reducible refine T.ok_ob ?_ (fun _ => ?_) | with_reducible refine T.ok_ite (fun _ => ?_) (fun _ => ?_) | with_reducible refine T.ok_leaf ?_)
    all_goals first | exact ha ▸ c1 _ | contradiction | rfl
  · repeat' (first | with_reducible refine T.ok_ob ?_ (fun _ => ?_) | with_reducible refine T.ok_ite (fun _ => ?_) (fun _ => ?_) | with_reducible refine T.ok_leaf ?_)
    all_goals first | exact ha ▸ c1 _ | exact c1 _ | contradiction | rfl
theorem k_slices_IndexFunc___complex64_complex64_ {P : Program} {f : FuncId} (h : Is_slices_IndexFunc___complex64_complex64_ P f) : C_slices_IndexFunc___complex64_complex64_ P f := by
  intro xs F p hF hx
  have hm := ml64 hx
  have step : ∀ i, i < xs.length → p (xs.getD i (0, 0)) = false → Exec (VCall P) ps_slices_IndexFunc___complex64_complex64_ b_slices_IndexFunc___complex64_complex64__L0 (h_slices_IndexFunc___complex64_complex64__L0 xs F p i) .normal (h_slices_IndexFunc___complex64_complex64__L0 xs F p (i + 1 : Nat)) := by
    intro i hi hp
    refine q_slices_IndexFunc___complex64_complex64__L0 _ _ _ _ ⟨fun _ => ⟨by omega, fun _ => ⟨hF _ _, fun _ => ⟨fun h => ?_, fun _ => ?_⟩⟩⟩, fun h => absurd (of_decide_eq_false h) (by omega)⟩
    · rw [getD_nat] at h
      have h : p (xs.getD i (0, 0)) = true := h
      rw [hp] at h; cases h
    · show _ = _
      rw [wrap64_id (by omega) (by omega)]; rfl
  refine q_slices_IndexFunc___complex64_complex64_ h xs F p ⟨fun hlt => ⟨?_, fun _ => ?_⟩, fun hge => ⟨?_, fun _ => ?_⟩⟩
  · have hlt := of_decide_eq_true hlt
    refine for_up (e := .ret) (xs.findIdx p) (fun i => h_slices_IndexFunc___complex64_complex64__L0 xs F p i) rfl (fun i hi => step i (by omega) (findIdx_not (0, 0) hi (by omega))) ?_
    refine q_slices_IndexFunc___complex64_complex64__L0 _ _ _ _ ⟨fun _ => ⟨by omega, fun _ => ⟨hF _ _, fun _ => ⟨fun _ => rfl, fun h => ?_⟩⟩⟩, fun h => absurd (of_decide_eq_false h) (by omega)⟩
    rw [getD_nat] at h
    have h : p (xs.getD (xs.findIdx p) (0, 0)) = false := h
    rw [findIdx_is (0, 0) hlt] at h; cases h
  · have hlt := of_decide_eq_true hlt
    show _ = _
    simp [idxM, hlt]
  · have hge := of_decide_eq_false hge
    have he := findIdx_eq hge
    refine for_up (e := .exit 0) xs.length (fun i => h_slices_IndexFunc___complex64_complex64__L0 xs F p i) rfl (fun i hi => step i hi (findIdx_not (0, 0) (by omega) hi)) ?_
    exact q_slices_IndexFunc___complex64_complex64__L0 _ _ _ _ ⟨fun h => absurd h (by simp), fun _ => rfl⟩
  · have hge := of_decide_eq_false hge
    show _ = _
    simp [idxM, hge]
theorem k_slices_ContainsFunc___complex64_complex64_ {P : Program} {f g : FuncId} (h : Is_slices_ContainsFunc___complex64_complex64_ P f g) (hg : C_slices_IndexFunc___complex64_complex64_ P g) : C_slices_ContainsFunc___complex64_complex64_ P f := by
  intro xs F p hF hx
  refine q_slices_ContainsFunc___complex64_complex64_ h xs F p ⟨hg xs F p hF hx, fun _ => ?_⟩
  show _ = _
  rw [idx_any]
theorem k_impl_areLines_1 {P : Program} {f g : FuncId} (h : Is_impl_areLines_1 P f g) (hg : C_impl_IsFiniteComplex P g) : C_impl_areLines_1 P f := fun a b => q_impl_areLines_1 h a b ⟨hg a b, fun _ => rfl⟩
theorem k_impl_areLines {P : Program} {f g F : FuncId} (h : Is_impl_areLines P f g F) (hg : C_slices_ContainsFunc___complex64_complex64_ P g) (hF : C_impl_areLines_1 P F) : C_impl_areLines P f := by
  intro xs hx
  refine q_impl_areLines h xs ⟨hg xs F _ (fun a b => hF a b) hx, fun _ => ?_⟩
  show _ = _
  congr 1
  unfold finAllC
  rw [← List.not_all_eq_any_not, Bool.not_not]
theorem mul_small {k : Int} {i : Nat} (h1 : 0 ≤ k) (h2 : k ≤ 96) (h : i ≤ 96) : 0 ≤ k * (i : Int) ∧ k * (i : Int) ≤ 9216 := by
  have a := Int.mul_le_mul_of_nonneg_left (show (i : Int) ≤ 96 by omega) h1
  have b := Int.mul_nonneg h1 (show (0 : Int) ≤ (i : Int) by omega)
  omega
theorem k_impl_lineOf {P : Program} {f g1 g2 g3 : FuncId} (h : Is_impl_lineOf P f g1 g2 g3) (c1 : C_impl_PhasorOf P g1) (c2 : C_impl_ScaleComplex P g2) (c3 : C_impl_plus P g3) : C_impl_lineOf P f := by
  intro a k hx hk
  refine q_impl_lineOf h a k ⟨?_, fun _ => rfl⟩
  refine for_up (e := .exit 0) a.length (fun i => h_impl_lineOf_L0 a k (lnM a k i).1 (lnM a k i).2 i) rfl (fun i hi => ?_) ?_
  · refine q_impl_lineOf_L0 _ _ _ _ _ ?_
    have hm := mul_small (i := i) hk.1 hk.2 (by omega)
    rw [wrap64_id (n := k * (i : Int)) (by omega) (by omega)]
    rw [show fneg .f64 (fdiv .f64 (fofi .f64 (k * (i : Int))) (fofi .f64 (a.length : Int))) = lnQ a.length k i from rfl]
    have d1 := c1 (lnQ a.length k i)
    have d2 := c2 (phM (lnQ a.length k i)).1 (phM (lnQ a.length k i)).2 (a.getD i 0)
    have d3 := c3 (lnM a k i).1 (lnM a k i).2 (fmul .f32 (phM (lnQ a.length k i)).1 (a.getD i 0)) (fmul .f32 (phM (lnQ a.length k i)).2 (a.getD i 0))
    repeat' (first | with_reducible refine T.ok_ob ?_ (fun _ => ?_) | with_reducible refine T.ok_ite (fun _ => ?_) (fun _ => ?_) | with_reducible refine T.ok_leaf ?_)
    all_goals (try simp only [decide_eq_true_eq, decide_eq_false_iff_not, Bool.not_eq_true', Bool.not_eq_false', Bool.not_eq_eq_eq_not, Bool.not_true, Bool.not_false, Int.toNat_natCast, tab_len, List.length_append, List.length_singleton, List.length_cons, List.length_nil, List.length_drop, List.length_take, getD_drop', getD_nat, reduceCtorEq] at *)
    all_goals (try simp (disch := omega) only [wrap64_id] at *)
    all_goals first | omega | (exfalso; omega) | exact True.intro | skip
    all_goals first | exact d1 | exact d2 | exact d3 | rfl
  · refine q_impl_lineOf_L0 _ _ _ _ _ ?_
    repeat' (first | with_reducible refine T.ok_ob ?_ (fun _ => ?_) | with_reducible refine T.ok_ite (fun _ => ?_) (fun _ => ?_) | with_reducible refine T.ok_leaf ?_)
    all_goals (try simp only [decide_eq_true_eq, decide_eq_false_iff_not, Bool.not_eq_true', Bool.not_eq_false', Bool.not_eq_eq_eq_not, Bool.not_true, Bool.not_false, Int.toNat_natCast, tab_len, List.length_append, List.length_singleton, List.length_cons, List.length_nil, List.length_drop, List.length_take, getD_drop', getD_nat, reduceCtorEq] at *)
    all_goals (try simp (disch := omega) only [wrap64_id] at *)
    all_goals first | omega | (exfalso; omega) | exact True.intro | skip
    all_goals rfl
theorem k_spec_l03Line {P : Program} {f g1 g2 : FuncId} (h : Is_spec_l03Line P f g1 g2) (c1 : C_spec_l01Phasor P g1) (c2 : C_spec_l01Scale P g2) : C_spec_l03Line P f := by
  intro a k hx hk
  refine q_spec_l03Line h a k ⟨?_, fun _ => rfl⟩
  refine for_up (e := .exit 0) a.length (fun i => h_spec_l03Line_L0 a k (lnM a k i).1 (lnM a k i).2 i) rfl (fun i hi => ?_) ?_
  · refine q_spec_l03Line_L0 _ _ _ _ _ ?_
    have hm := mul_small (i := i) hk.1 hk.2 (by omega)
    rw [wrap64_id (n := k * (i : Int)) (by omega) (by omega)]
    rw [show fneg .f64 (fdiv .f64 (fofi .f64 (k * (i : Int))) (fofi .f64 (a.length : Int))) = lnQ a.length k i from rfl]
    have d1 := c1 (lnQ a.length k i)
    have d2 := c2 (phM (lnQ a.length k i)).1 (phM (lnQ a.length k i)).2 (a.getD i 0)
    repeat' (first | with_reducible refine T.ok_ob ?_ (fun _ => ?_) | with_reducible refine T.ok_ite (fun _ => ?_) (fun _ => ?_) | with_reducible refine T.ok_leaf ?_)
    all_goals (try simp only [decide_eq_true_eq, decide_eq_false_iff_not, Bool.not_eq_true', Bool.not_eq_false', Bool.not_eq_eq_eq_not, Bool.not_true, Bool.not_false, Int.toNat_natCast, tab_len, List.length_append, List.length_singleton, List.length_cons, List.length_nil, List.length_drop, List.length_take, getD_drop', getD_nat, reduceCtorEq] at *)
    all_goals (try simp (disch := omega) only [wrap64_id] at *)
    all_goals first | omega | (exfalso; omega) | exact True.intro | skip
    all_goals first | exact d1 | exact d2 | rfl
  · refine q_spec_l03Line_L0 _ _ _ _ _ ?_
    repeat' (first | with_reducible refine T.ok_ob ?_ (fun _ => ?_) | with_reducible refine T.ok_ite (fun _ => ?_) (fun _ => ?_) | with_reducible refine T.ok_leaf ?_)
    all_goals (try simp only [decide_eq_true_eq, decide_eq_false_iff_not, Bool.not_eq_true', Bool.not_eq_false', Bool.not_eq_eq_eq_not, Bool.not_true, Bool.not_false, Int.toNat_natCast, tab_len, List.length_append, List.length_singleton, List.length_cons, List.length_nil, List.length_drop, List.length_take, getD_drop', getD_nat, reduceCtorEq] at *)
    all_goals (try simp (disch := omega) only [wrap64_id] at *)
    all_goals first | omega | (exfalso; omega) | exact True.intro | skip
    all_goals rfl
theorem lns_len (a : List Nat) (m : Nat) : (lnsM a m).length = m := tab_len _ _
theorem lns_succ (a : List Nat) (m : Nat) : lnsM a (m + 1) = lnsM a m ++ [lnM a m a.length] := tab_succ _ _
theorem k_impl_LinesOf {P : Program} {f g1 g2 g3 : FuncId} (h : Is_impl_LinesOf P f g1 g2 g3) (c1 : C_impl_IsSeries P g1) (c2 : C_impl_lineOf P g2) (c3 : C_impl_areLines P g3) : C_impl_LinesOf P f := by
  intro a hx
  refine q_impl_LinesOf h a ?_
  cases hs : seriesM a
  · repeat' (first | with_reducible refine T.ok_ob ?_ (fun _ => ?_) | with_reducible refine T.ok_ite (fun _ => ?_) (fun _ => ?_) | with_reducible refine T.ok_leaf ?_)
    all_goals first | exact hs ▸ c1 _ hx | contradiction | (simp [lnsOk, hs]; done)
  have hl := series_len hs
  have c3 := c3 (lnsM a (a.length / 2 + 1)) (by rw [lns_len, maxLen_eq]; omega)
  cases hf : finAllC (lnsM a (a.length / 2 + 1))
  · repeat' (first | with_reducible refine T.ok_ob ?_ (fun _ => ?_) | with_reducible refine T.ok_ite (fun _ => ?_) (fun _ => ?_) | with_reducible refine T.ok_leaf ?_)
    all_goals first | exact hs ▸ c1 _ hx | exact hf ▸ c3 | contradiction | omega | (simp [lnsOk, hs, hf]; done) | skip
    refine for_up (e := .exit 0) (a.length / 2 + 1) (fun i => h_impl_LinesOf_L0 a (lnsM a i) i) rfl (fun i hi => ?_) ?_
    · refine q_impl_LinesOf_L0 _ _ _ ?_
      have d2 := c2 a i hl.2 (by omega)
      have e1 : IntKind.wrap .i64 (IntKind.wrap .i64 (Int.tdiv (a.length : Int) 2) + 1) = ((a.length / 2 + 1 : Nat) : Int) := by
        rw [Int.tdiv_eq_ediv_of_nonneg (by omega), wrap64_id (n := (a.length : Int) / 2) (by omega) (by omega), wrap64_id (by omega) (by omega)]; omega
      have tl := lns_len a i
      rw [e1, lns_succ]
      repeat' (first | with_reducible refine T.ok_ob ?_ (fun _ => ?_) | with_reducible refine T.ok_ite (fun _ => ?_) (fun _ => ?_) | with_reducible refine T.ok_leaf ?_)
      all_goals (try simp only [decide_eq_true_eq, decide_eq_false_iff_not, Bool.not_eq_true', Bool.not_eq_false', Bool.not_eq_eq_eq_not, Bool.not_true, Bool.not_false, Int.toNat_natCast, tab_len, List.length_append, List.length_singleton, List.length_cons, List.length_nil, List.length_drop, List.length_take, getD_drop', getD_nat, reduceCtorEq] at *)
      all_goals (try simp (disch := omega) only [wrap64_id] at *)
      all_goals first | omega | (exfalso; omega) | exact True.intro | skip
      all_goals first | exact d2 | rfl
    · refine q_impl_LinesOf_L0 _ _ _ ?_
      have e1 : IntKind.wrap .i64 (IntKind.wrap .i64 (Int.tdiv (a.length : Int) 2) + 1) = ((a.length / 2 + 1 : Nat) : Int) := by
        rw [Int.tdiv_eq_ediv_of_nonneg (by omega), wrap64_id (n := (a.length : Int) / 2) (by omega) (by omega), wrap64_id (by omega) (by omega)]; omega
      rw [e1]
      repeat' (first | with_reducible refine T.ok_ob ?_ (fun _ => ?_) | with_reducible refine T.ok_ite (fun _ => ?_) (fun _ => ?_) | with_reducible refine T.ok_leaf ?_)
      all_goals (try simp only [decide_eq_true_eq, decide_eq_false_iff_not, Bool.not_eq_true', Bool.not_eq_false', Bool.not_eq_eq_eq_not, Bool.not_true, Bool.not_false, Int.toNat_natCast, tab_len, List.length_append, List.length_singleton, List.length_cons, List.length_nil, List.length_drop, List.length_take, getD_drop', getD_nat, reduceCtorEq] at *)
      all_goals (try simp (disch := omega) only [wrap64_id] at *)
      all_goals first | omega | (exfalso; omega) | exact True.intro | skip
      all_goals rfl
  · repeat' (first | with_reducible refine T.ok_ob ?_ (fun _ => ?_) | with_reducible refine T.ok_ite (fun _ => ?_) (fun _ => ?_) | with_reducible refine T.ok_leaf ?_)
    all_goals first | exact hs ▸ c1 _ hx | exact hf ▸ c3 | contradiction | omega | (simp [lnsOk, hs, hf]; done) | skip
    refine for_up (e := .exit 0) (a.length / 2 + 1) (fun i => h_impl_LinesOf_L0 a (lnsM a i) i) rfl (fun i hi => ?_) ?_
    · refine q_impl_LinesOf_L0 _ _ _ ?_
      have d2 := c2 a i hl.2 (by omega)
      have e1 : IntKind.wrap .i64 (IntKind.wrap .i64 (Int.tdiv (a.length : Int) 2) + 1) = ((a.length / 2 + 1 : Nat) : Int) := by
        rw [Int.tdiv_eq_ediv_of_nonneg (by omega), wrap64_id (n := (a.length : Int) / 2) (by omega) (by omega), wrap64_id (by omega) (by omega)]; omega
      have tl := lns_len a i
      rw [e1, lns_succ]
      repeat' (first | with_reducible refine T.ok_ob ?_ (fun _ => ?_) | with_reducible refine T.ok_ite (fun _ => ?_) (fun _ => ?_) | with_reducible refine T.ok_leaf ?_)
      all_goals (try simp only [decide_eq_true_eq, decide_eq_false_iff_not, Bool.not_eq_true', Bool.not_eq_false', Bool.not_eq_eq_eq_not, Bool.not_true, Bool.not_false, Int.toNat_natCast, tab_len, List.length_append, List.length_singleton, List.length_cons, List.length_nil, List.length_drop, List.length_take, getD_drop', getD_nat, reduceCtorEq] at *)
      all_goals (try simp (disch := omega) only [wrap64_id] at *)
      all_goals first | omega | (exfalso; omega) | exact True.intro | skip
      all_goals first | exact d2 | rfl
    · refine q_impl_LinesOf_L0 _ _ _ ?_
      have e1 : IntKind.wrap .i64 (IntKind.wrap .i64 (Int.tdiv (a.length : Int) 2) + 1) = ((a.length / 2 + 1 : Nat) : Int) := by
        rw [Int.tdiv_eq_ediv_of_nonneg (by omega), wrap64_id (n := (a.length : Int) / 2) (by omega) (by omega), wrap64_id (by omega) (by omega)]; omega
      rw [e1]
      repeat' (first | with_reducible refine T.ok_ob ?_ (fun _ => ?_) | with_reducible refine T.ok_ite (fun _ => ?_) (fun _ => ?_) | with_reducible refine T.ok_leaf ?_)
      all_goals (try simp only [decide_eq_true_eq, decide_eq_false_iff_not, Bool.not_eq_true', Bool.not_eq_false', Bool.not_eq_eq_eq_not, Bool.not_true, Bool.not_false, Int.toNat_natCast, tab_len, List.length_append, List.length_singleton, List.length_cons, List.length_nil, List.length_drop, List.length_take, getD_drop', getD_nat, reduceCtorEq] at *)
      all_goals (try simp (disch := omega) only [wrap64_id] at *)
      all_goals first | omega | (exfalso; omega) | exact True.intro | skip
      all_goals rfl
end Go.Proofs.LV
