/- Lines of frequency. -/
import Derived.Test.YtaehhnldcnhiiaaLvFnBB
namespace Go.Proofs.LV
open Go
set_option linter.unusedVariables false
set_option linter.unusedSimpArgs false

abbrev NP := Nat × Nat
abbrev LC := List (Nat × Nat)
abbrev PC (p : List Nat) (xs : List (Nat × Nat)) : AV := .sl (.par p) 0 (.c .f32 xs)
abbrev OC (n : Nat) (xs : List (Nat × Nat)) : AV := .sl (.own n) 0 (.c .f32 xs)
def finC (z : Nat × Nat) : Bool := finM z.1 && finM z.2
def finAllC (zs : List (Nat × Nat)) : Bool := zs.all finC
/-- a line -/
def lnQ (n : Nat) (k : Int) (i : Nat) : Nat := fneg .f64 (fdiv .f64 (fofi .f64 (k * i)) (fofi .f64 n))
def lnM (a : List Nat) (k : Int) (m : Nat) : Nat × Nat := accN (fun i z => (fadd .f32 z.1 (fmul .f32 (phM (lnQ a.length k i)).1 (a.getD i 0)), fadd .f32 z.2 (fmul .f32 (phM (lnQ a.length k i)).2 (a.getD i 0)))) m (0, 0)
def lnsM (a : List Nat) (m : Nat) : List (Nat × Nat) := tab m fun k => lnM a k a.length
def lnsOk (a : List Nat) : Bool := seriesM a && finAllC (lnsM a (a.length / 2 + 1))
def ckM (k : Int) : Nat × Nat := (fconv .f64 .f32 (fofi .f64 k), 1065353216)
def marksC : Nat → Int → List (Nat × Nat)
  | 0, _ => []
  | n + 1, k => ckM k :: marksC n (k + 1)

-- FN impl_plus
/-- impl.plus: slots 16, results [.t 4]; calls []; names [(a, 0), (b, 1), (a, 2), (b, 3)] -/
def ps_impl_plus : List Nat := [0, 1, 4]
def b_impl_plus : VCode :=
  (.seq
   (.region false [
    ⟨some 4, .mv, [.k (.c .f32 0 0)], none⟩])
   (.seq
    (.region false [
     ⟨some 5, .mv, [.t 0], none⟩,
     ⟨some 6, .re, [.t 5], none⟩,
     ⟨some 7, .mv, [.t 1], none⟩,
     ⟨some 8, .re, [.t 7], none⟩,
     ⟨some 9, (.bin .add), [.t 6, .t 8], none⟩,
     ⟨some 10, .mv, [.t 0], none⟩,
     ⟨some 11, .im, [.t 10], none⟩,
     ⟨some 12, .mv, [.t 1], none⟩,
     ⟨some 13, .im, [.t 12], none⟩,
     ⟨some 14, (.bin .add), [.t 11, .t 13], none⟩,
     ⟨some 15, .cplx, [.t 9, .t 14], none⟩,
     ⟨some 4, .mv, [.t 15], none⟩])
    .ret))

abbrev Is_impl_plus (P : Program) (g_f : FuncId) : Prop := FnIs P g_f 16 [.t 4] (b_impl_plus)

abbrev C_impl_plus (P : Program) (g_f : FuncId) : Prop := ∀ (a : Nat) (b : Nat) (c : Nat) (d : Nat), VCall P g_f [.c .f32 a b, .c .f32 c d] (.c .f32 (fadd .f32 a c) (fadd .f32 b d))
def oc1_impl_plus (as : List AV) : T AV := match as with | [.c .f32 a b, .c .f32 c d] => .leaf (.c .f32 (fadd .f32 a c) (fadd .f32 b d)) | _ => .fail



theorem q_impl_plus {P : Program} {g_f : FuncId} (h_ : Is_impl_plus P g_f) (a : Nat) (b : Nat) (c : Nat) (d : Nat) (ht : T.ok (fun x_ => x_ = .c .f32 (fadd .f32 a c) (fadd .f32 b d)) (
      T.leaf (AV.c FloatKind.f32 (fadd FloatKind.f32 a c) (fadd FloatKind.f32 b d)))) :
    VCall P g_f [.c .f32 a b, .c .f32 c d] (.c .f32 (fadd .f32 a c) (fadd .f32 b d)) := h_.call_of ps_impl_plus ⟨fun _ _ => .fail, fun _ _ => none⟩ (by kernel_rfl) ht

-- END impl_plus
-- FN impl_ScaleComplex
/-- impl.ScaleComplex: slots 14, results [.t 4]; calls []; names [(x, 0), (by, 1), (x, 2), (by, 3)] -/
def ps_impl_ScaleComplex : List Nat := [0, 1, 4]
def b_impl_ScaleComplex : VCode :=
  (.seq
   (.region false [
    ⟨some 4, .mv, [.k (.c .f32 0 0)], none⟩])
   (.seq
    (.region false [
     ⟨some 5, .mv, [.t 0], none⟩,
     ⟨some 6, .re, [.t 5], none⟩,
     ⟨some 7, .mv, [.t 1], none⟩,
     ⟨some 8, (.bin .mul), [.t 6, .t 7], none⟩,
     ⟨some 9, .mv, [.t 0], none⟩,
     ⟨some 10, .im, [.t 9], none⟩,
     ⟨some 11, .mv, [.t 1], none⟩,
     ⟨some 12, (.bin .mul), [.t 10, .t 11], none⟩,
     ⟨some 13, .cplx, [.t 8, .t 12], none⟩,
     ⟨some 4, .mv, [.t 13], none⟩])
    .ret))

abbrev Is_impl_ScaleComplex (P : Program) (g_f : FuncId) : Prop := FnIs P g_f 14 [.t 4] (b_impl_ScaleComplex)

abbrev C_impl_ScaleComplex (P : Program) (g_f : FuncId) : Prop := ∀ (a : Nat) (b : Nat) (x : Nat), VCall P g_f [.c .f32 a b, .f .f32 x] (.c .f32 (fmul .f32 a x) (fmul .f32 b x))
def oc1_impl_ScaleComplex (as : List AV) : T AV := match as with | [.c .f32 a b, .f .f32 x] => .leaf (.c .f32 (fmul .f32 a x) (fmul .f32 b x)) | _ => .fail



theorem q_impl_ScaleComplex {P : Program} {g_f : FuncId} (h_ : Is_impl_ScaleComplex P g_f) (a : Nat) (b : Nat) (x : Nat) (ht : T.ok (fun x_ => x_ = .c .f32 (fmul .f32 a x) (fmul .f32 b x)) (
      T.leaf (AV.c FloatKind.f32 (fmul FloatKind.f32 a x) (fmul FloatKind.f32 b x)))) :
    VCall P g_f [.c .f32 a b, .f .f32 x] (.c .f32 (fmul .f32 a x) (fmul .f32 b x)) := h_.call_of ps_impl_ScaleComplex ⟨fun _ _ => .fail, fun _ _ => none⟩ (by kernel_rfl) ht

-- END impl_ScaleComplex
-- FN spec_l01Scale
/-- spec.l01Scale: slots 14, results [.t 4]; calls []; names [(x, 0), (by, 1), (x, 2), (by, 3)] -/
def ps_spec_l01Scale : List Nat := [0, 1, 4]
def b_spec_l01Scale : VCode :=
  (.seq
   (.region false [
    ⟨some 4, .mv, [.k (.c .f32 0 0)], none⟩])
   (.seq
    (.region false [
     ⟨some 5, .mv, [.t 0], none⟩,
     ⟨some 6, .re, [.t 5], none⟩,
     ⟨some 7, .mv, [.t 1], none⟩,
     ⟨some 8, (.bin .mul), [.t 6, .t 7], none⟩,
     ⟨some 9, .mv, [.t 0], none⟩,
     ⟨some 10, .im, [.t 9], none⟩,
     ⟨some 11, .mv, [.t 1], none⟩,
     ⟨some 12, (.bin .mul), [.t 10, .t 11], none⟩,
     ⟨some 13, .cplx, [.t 8, .t 12], none⟩,
     ⟨some 4, .mv, [.t 13], none⟩])
    .ret))

abbrev Is_spec_l01Scale (P : Program) (g_f : FuncId) : Prop := FnIs P g_f 14 [.t 4] (b_spec_l01Scale)

abbrev C_spec_l01Scale (P : Program) (g_f : FuncId) : Prop := ∀ (a : Nat) (b : Nat) (x : Nat), VCall P g_f [.c .f32 a b, .f .f32 x] (.c .f32 (fmul .f32 a x) (fmul .f32 b x))
def oc1_spec_l01Scale (as : List AV) : T AV := match as with | [.c .f32 a b, .f .f32 x] => .leaf (.c .f32 (fmul .f32 a x) (fmul .f32 b x)) | _ => .fail



theorem q_spec_l01Scale {P : Program} {g_f : FuncId} (h_ : Is_spec_l01Scale P g_f) (a : Nat) (b : Nat) (x : Nat) (ht : T.ok (fun x_ => x_ = .c .f32 (fmul .f32 a x) (fmul .f32 b x)) (
      T.leaf (AV.c FloatKind.f32 (fmul FloatKind.f32 a x) (fmul FloatKind.f32 b x)))) :
    VCall P g_f [.c .f32 a b, .f .f32 x] (.c .f32 (fmul .f32 a x) (fmul .f32 b x)) := h_.call_of ps_spec_l01Scale ⟨fun _ _ => .fail, fun _ _ => none⟩ (by kernel_rfl) ht

-- END spec_l01Scale
-- FN impl_IsFiniteComplex
/-- impl.IsFiniteComplex: slots 11, results [.t 2]; calls [5:g_impl_IsFinite, 9:g_impl_IsFinite]; names [(x, 0), (x, 1)] -/
def ps_impl_IsFiniteComplex : List Nat := [0, 2]
def b_impl_IsFiniteComplex (g_impl_IsFinite : FuncId) : VCode :=
  (.seq
   (.region false [
    ⟨some 2, .mv, [.k (.b false)], none⟩])
   (.seq
    (.region false [
     ⟨some 3, .mv, [.t 0], none⟩,
     ⟨some 4, .re, [.t 3], none⟩,
     ⟨some 5, (.call g_impl_IsFinite), [.t 4], none⟩,
     ⟨some 6, .mv, [.t 5], none⟩,
     ⟨some 7, .mv, [.t 0], some (6, true)⟩,
     ⟨some 8, .im, [.t 7], some (6, true)⟩,
     ⟨some 9, (.call g_impl_IsFinite), [.t 8], some (6, true)⟩,
     ⟨some 10, .pick, [.t 6, .t 9, .k (.b false)], none⟩,
     ⟨some 2, .mv, [.t 10], none⟩])
    .ret))

abbrev Is_impl_IsFiniteComplex (P : Program) (g_f : FuncId) (g_impl_IsFinite : FuncId) : Prop := FnIs P g_f 11 [.t 2] (b_impl_IsFiniteComplex g_impl_IsFinite)

abbrev C_impl_IsFiniteComplex (P : Program) (g_f : FuncId) : Prop := ∀ (a : Nat) (b : Nat), VCall P g_f [.c .f32 a b] (.b (finM a && finM b))
def oc1_impl_IsFiniteComplex (as : List AV) : T AV := match as with | [.c .f32 a b] => .leaf (.b (finM a && finM b)) | _ => .fail
def oc_impl_IsFiniteComplex (a : Nat) (b : Nat) (d : Nat) (as : List AV) : T AV := match d with | 5 => oc1_impl_IsFinite as | 9 => oc1_impl_IsFinite as | _ => .fail



theorem q_impl_IsFiniteComplex {P : Program} {g_f : FuncId} {g_impl_IsFinite : FuncId} (h_ : Is_impl_IsFiniteComplex P g_f g_impl_IsFinite) (a : Nat) (b : Nat) (ht : T.ok (fun x_ => x_ = .b (finM a && finM b)) (
      T.ob ((VCall P) g_impl_IsFinite [AV.f FloatKind.f32 a] (AV.b (finM a))) (T.ite (finM a) (T.ob ((VCall P) g_impl_IsFinite [AV.f FloatKind.f32 b] (AV.b (finM b))) (T.leaf (AV.b (finM b)))) (T.leaf (AV.b false))))) :
    VCall P g_f [.c .f32 a b] (.b (finM a && finM b)) := h_.call_of ps_impl_IsFiniteComplex ⟨oc_impl_IsFiniteComplex a b, fun _ _ => none⟩ (by kernel_rfl) ht

-- END impl_IsFiniteComplex
-- FN spec_l01CFinite
/-- spec.l01CFinite: slots 11, results [.t 2]; calls [5:g_spec_l01Finite, 9:g_spec_l01Finite]; names [(x, 0), (x, 1)] -/
def ps_spec_l01CFinite : List Nat := [0, 2]
def b_spec_l01CFinite (g_spec_l01Finite : FuncId) : VCode :=
  (.seq
   (.region false [
    ⟨some 2, .mv, [.k (.b false)], none⟩])
   (.seq
    (.region false [
     ⟨some 3, .mv, [.t 0], none⟩,
     ⟨some 4, .re, [.t 3], none⟩,
     ⟨some 5, (.call g_spec_l01Finite), [.t 4], none⟩,
     ⟨some 6, .mv, [.t 5], none⟩,
     ⟨some 7, .mv, [.t 0], some (6, true)⟩,
     ⟨some 8, .im, [.t 7], some (6, true)⟩,
     ⟨some 9, (.call g_spec_l01Finite), [.t 8], some (6, true)⟩,
     ⟨some 10, .pick, [.t 6, .t 9, .k (.b false)], none⟩,
     ⟨some 2, .mv, [.t 10], none⟩])
    .ret))

abbrev Is_spec_l01CFinite (P : Program) (g_f : FuncId) (g_spec_l01Finite : FuncId) : Prop := FnIs P g_f 11 [.t 2] (b_spec_l01CFinite g_spec_l01Finite)

abbrev C_spec_l01CFinite (P : Program) (g_f : FuncId) : Prop := ∀ (a : Nat) (b : Nat), VCall P g_f [.c .f32 a b] (.b (finM a && finM b))
def oc1_spec_l01CFinite (as : List AV) : T AV := match as with | [.c .f32 a b] => .leaf (.b (finM a && finM b)) | _ => .fail
def oc_spec_l01CFinite (a : Nat) (b : Nat) (d : Nat) (as : List AV) : T AV := match d with | 5 => oc1_spec_l01Finite as | 9 => oc1_spec_l01Finite as | _ => .fail



theorem q_spec_l01CFinite {P : Program} {g_f : FuncId} {g_spec_l01Finite : FuncId} (h_ : Is_spec_l01CFinite P g_f g_spec_l01Finite) (a : Nat) (b : Nat) (ht : T.ok (fun x_ => x_ = .b (finM a && finM b)) (
      T.ob ((VCall P) g_spec_l01Finite [AV.f FloatKind.f32 a] (AV.b (finM a))) (T.ite (finM a) (T.ob ((VCall P) g_spec_l01Finite [AV.f FloatKind.f32 b] (AV.b (finM b))) (T.leaf (AV.b (finM b)))) (T.leaf (AV.b false))))) :
    VCall P g_f [.c .f32 a b] (.b (finM a && finM b)) := h_.call_of ps_spec_l01CFinite ⟨oc_spec_l01CFinite a b, fun _ _ => none⟩ (by kernel_rfl) ht

-- END spec_l01CFinite
-- FN slices_IndexFunc___complex64_complex64_
/-- slices.IndexFunc[[]complex64,complex64]: slots 19, results [.t 4]; calls [16:VALUE]; names [(s, 0), (f, 1), (s, 2), (f, 3), (i, 5)] -/
def ps_slices_IndexFunc___complex64_complex64_ : List Nat := [0, 1, 4, 5, 7, 8, 9, 16]
def lv_slices_IndexFunc___complex64_complex64__L0 : List Nat := [0, 1, 7, 8]
def b_slices_IndexFunc___complex64_complex64__L0 : VCode :=
  (.seq
   (.region false [
    ⟨some 9, (.bin .lss), [.t 8, .t 7], none⟩])
   (.seq
    (.cond (.t 9)
     .skip
     (.exit 0))
    (.seq
     (.block 1
      (.seq
       (.region false [
        ⟨some 10, .mv, [.t 8], none⟩,
        ⟨some 5, .mv, [.t 10], none⟩])
       (.seq
        (.region false [
         ⟨some 11, .mv, [.t 1], none⟩,
         ⟨some 12, .mv, [.t 0], none⟩,
         ⟨some 13, .mv, [.t 5], none⟩,
         ⟨some 14, .iaddr, [.t 12, .t 13], none⟩,
         ⟨some 15, .load, [.t 14], none⟩,
         ⟨some 16, .callv, [.t 11, .t 15], none⟩])
        (.cond (.t 16)
         (.seq
          (.region false [
           ⟨some 17, .mv, [.t 5], none⟩,
           ⟨some 4, .mv, [.t 17], none⟩])
          .ret)
         .skip))))
     (.region false [
      ⟨some 18, (.bin .add), [.t 8, .k (.i .i64 1)], none⟩,
      ⟨some 8, .mv, [.t 18], none⟩]))))

def b_slices_IndexFunc___complex64_complex64_ : VCode :=
  (.seq
   (.region false [
    ⟨some 4, .mv, [.k (.i .i64 0)], none⟩])
   (.seq
    (.seq
     (.region false [
      ⟨some 6, .mv, [.t 0], none⟩,
      ⟨some 7, .len, [.t 6], none⟩,
      ⟨some 8, .mv, [.k (.i .i64 0)], none⟩])
     (.block 0 (.loop b_slices_IndexFunc___complex64_complex64__L0)))
    (.seq
     (.region false [
      ⟨some 4, .mv, [.k (.i .i64 (-1))], none⟩])
     .ret)))

abbrev Is_slices_IndexFunc___complex64_complex64_ (P : Program) (g_f : FuncId) : Prop := FnIs P g_f 19 [.t 4] (b_slices_IndexFunc___complex64_complex64_)

abbrev C_slices_IndexFunc___complex64_complex64_ (P : Program) (g_f : FuncId) : Prop := ∀ (xs : LC) (F : FuncId) (p : NP → Bool) (hF : ∀ a b, VCall P F [.c .f32 a b] (.b (p (a, b)))) (hx : xs.length ≤ maxLen), VCall P g_f [PC [0] xs, .fn F []] (.i .i64 (idxM p xs))
def oc_slices_IndexFunc___complex64_complex64_ (xs : LC) (F : FuncId) (p : NP → Bool) (d : Nat) (as : List AV) : T AV := match d with | 16 => (match as with | [.c _ x y] => .leaf (.b (p (x, y))) | _ => .fail) | _ => .fail
def h_slices_IndexFunc___complex64_complex64__L0 (xs : LC) (F : FuncId) (p : NP → Bool) (v8 : Int) : Env := [AV.sl (Tag.par [0]) 0 (Cont.c FloatKind.f32 xs), AV.fn F []] ++ anys 5 ++ [AV.i IntKind.i64 (↑(List.length xs) : Int), .i IntKind.i64 v8] ++ anys 10

theorem q_slices_IndexFunc___complex64_complex64__L0 {VC : FuncId → List AV → AV → Prop} (xs : LC) (F : FuncId) (p : NP → Bool) (v8 : Int) {e_ : Ex} {σ_ : Env} (ht : T.ok (fun x_ => x_ = (e_, σ_)) (
      T.ite (decide (v8 < (↑(List.length xs) : Int)))
        (T.ob (0 ≤ v8 ∧ v8 < (↑(List.length xs) : Int))
          (T.ob
            (VC F [AV.c FloatKind.f32 (Prod.fst (List.getD xs (Int.toNat v8) (0, 0))) (Prod.snd (List.getD xs (Int.toNat v8) (0, 0)))]
              (AV.b (p (Prod.fst (List.getD xs (Int.toNat v8) (0, 0)), Prod.snd (List.getD xs (Int.toNat v8) (0, 0))))))
            (T.ite (p (Prod.fst (List.getD xs (Int.toNat v8) (0, 0)), Prod.snd (List.getD xs (Int.toNat v8) (0, 0)))) (T.leaf (Ex.ret, anys 4 ++ AV.i IntKind.i64 v8 :: anys 14))
              (T.leaf (Ex.normal, h_slices_IndexFunc___complex64_complex64__L0 xs F p (IntKind.wrap IntKind.i64 (v8 + 1)))))))
        (T.leaf (Ex.exit 0, h_slices_IndexFunc___complex64_complex64__L0 xs F p v8)))) :
    Exec VC ps_slices_IndexFunc___complex64_complex64_ (b_slices_IndexFunc___complex64_complex64__L0) (h_slices_IndexFunc___complex64_complex64__L0 xs F p v8) e_ σ_ := evL_of (lv := lv_slices_IndexFunc___complex64_complex64__L0) (rs := [4]) (O := ⟨oc_slices_IndexFunc___complex64_complex64_ xs F p, fun _ _ => none⟩) (by kernel_rfl) ht

theorem q_slices_IndexFunc___complex64_complex64_ {P : Program} {g_f : FuncId} (h_ : Is_slices_IndexFunc___complex64_complex64_ P g_f) (xs : LC) (F : FuncId) (p : NP → Bool) (ht : T.ok (fun x_ => x_ = .i .i64 (idxM p xs)) (
      T.ite (decide (List.findIdx p xs < List.length xs))
        (T.ob
          (Exec (VCall P) ps_slices_IndexFunc___complex64_complex64_ (VCode.block 0 (VCode.loop b_slices_IndexFunc___complex64_complex64__L0)) (h_slices_IndexFunc___complex64_complex64__L0 xs F p 0) Ex.ret
            (anys 4 ++ AV.i IntKind.i64 (↑(List.findIdx p xs) : Int) :: anys 14))
          (T.leaf (AV.i IntKind.i64 (↑(List.findIdx p xs) : Int))))
        (T.ob
          (Exec (VCall P) ps_slices_IndexFunc___complex64_complex64_ (VCode.block 0 (VCode.loop b_slices_IndexFunc___complex64_complex64__L0)) (h_slices_IndexFunc___complex64_complex64__L0 xs F p 0) Ex.normal
            (h_slices_IndexFunc___complex64_complex64__L0 xs F p (↑(List.length xs) : Int)))
          (T.leaf (AV.i IntKind.i64 (-1)))))) :
    VCall P g_f [PC [0] xs, .fn F []] (.i .i64 (idxM p xs)) := h_.call_of ps_slices_IndexFunc___complex64_complex64_ ⟨oc_slices_IndexFunc___complex64_complex64_ xs F p, fun id σ => match id with | 0 => some (lv_slices_IndexFunc___complex64_complex64__L0, .ite (decide (xs.findIdx p < xs.length)) (.leaf (.ret, ret1 19 4 (.i .i64 (xs.findIdx p)))) (.leaf (.normal, h_slices_IndexFunc___complex64_complex64__L0 xs F p xs.length))) | _ => none⟩ (by kernel_rfl) ht

-- END slices_IndexFunc___complex64_complex64_
-- FN slices_ContainsFunc___complex64_complex64_
/-- slices.ContainsFunc[[]complex64,complex64]: slots 9, results [.t 4]; calls [7:g_slices_IndexFunc___complex64_complex64_]; names [(s, 0), (f, 1), (s, 2), (f, 3)] -/
def ps_slices_ContainsFunc___complex64_complex64_ : List Nat := [0, 1, 4]
def b_slices_ContainsFunc___complex64_complex64_ (g_slices_IndexFunc___complex64_complex64_ : FuncId) : VCode :=
  (.seq
   (.region false [
    ⟨some 4, .mv, [.k (.b false)], none⟩])
   (.seq
    (.region false [
     ⟨some 5, .mv, [.t 0], none⟩,
     ⟨some 6, .mv, [.t 1], none⟩,
     ⟨some 7, (.call g_slices_IndexFunc___complex64_complex64_), [.t 5, .t 6], none⟩,
     ⟨some 8, (.bin .geq), [.t 7, .k (.i .i64 0)], none⟩,
     ⟨some 4, .mv, [.t 8], none⟩])
    .ret))

abbrev Is_slices_ContainsFunc___complex64_complex64_ (P : Program) (g_f : FuncId) (g_slices_IndexFunc___complex64_complex64_ : FuncId) : Prop := FnIs P g_f 9 [.t 4] (b_slices_ContainsFunc___complex64_complex64_ g_slices_IndexFunc___complex64_complex64_)

abbrev C_slices_ContainsFunc___complex64_complex64_ (P : Program) (g_f : FuncId) : Prop := ∀ (xs : LC) (F : FuncId) (p : NP → Bool) (hF : ∀ a b, VCall P F [.c .f32 a b] (.b (p (a, b)))) (hx : xs.length ≤ maxLen), VCall P g_f [PC [0] xs, .fn F []] (.b (xs.any p))
def oc_slices_ContainsFunc___complex64_complex64_ (xs : LC) (F : FuncId) (p : NP → Bool) (d : Nat) (as : List AV) : T AV := match d with | 7 => .leaf (.i .i64 (idxM p xs)) | _ => .fail



theorem q_slices_ContainsFunc___complex64_complex64_ {P : Program} {g_f : FuncId} {g_slices_IndexFunc___complex64_complex64_ : FuncId} (h_ : Is_slices_ContainsFunc___complex64_complex64_ P g_f g_slices_IndexFunc___complex64_complex64_) (xs : LC) (F : FuncId) (p : NP → Bool) (ht : T.ok (fun x_ => x_ = .b (xs.any p)) (
      T.ob ((VCall P) g_slices_IndexFunc___complex64_complex64_ [AV.sl (Tag.par [0]) 0 (Cont.c FloatKind.f32 xs), AV.fn F []] (AV.i IntKind.i64 (idxM p xs))) (T.leaf (AV.b (decide (idxM p xs ≥ 0)))))) :
    VCall P g_f [PC [0] xs, .fn F []] (.b (xs.any p)) := h_.call_of ps_slices_ContainsFunc___complex64_complex64_ ⟨oc_slices_ContainsFunc___complex64_complex64_ xs F p, fun _ _ => none⟩ (by kernel_rfl) ht

-- END slices_ContainsFunc___complex64_complex64_
-- FN impl_areLines_1
/-- impl.areLines$1: slots 6, results [.t 2]; calls [4:g_impl_IsFiniteComplex]; names [(x, 0), (x, 1)] -/
def ps_impl_areLines_1 : List Nat := [0, 2]
def b_impl_areLines_1 (g_impl_IsFiniteComplex : FuncId) : VCode :=
  (.seq
   (.region false [
    ⟨some 2, .mv, [.k (.b false)], none⟩])
   (.seq
    (.region false [
     ⟨some 3, .mv, [.t 0], none⟩,
     ⟨some 4, (.call g_impl_IsFiniteComplex), [.t 3], none⟩,
     ⟨some 5, .not, [.t 4], none⟩,
     ⟨some 2, .mv, [.t 5], none⟩])
    .ret))

abbrev Is_impl_areLines_1 (P : Program) (g_f : FuncId) (g_impl_IsFiniteComplex : FuncId) : Prop := FnIs P g_f 6 [.t 2] (b_impl_areLines_1 g_impl_IsFiniteComplex)

abbrev C_impl_areLines_1 (P : Program) (g_f : FuncId) : Prop := ∀ (a : Nat) (b : Nat), VCall P g_f [.c .f32 a b] (.b (!(finM a && finM b)))
def oc1_impl_areLines_1 (as : List AV) : T AV := match as with | [.c .f32 a b] => .leaf (.b (!(finM a && finM b))) | _ => .fail
def oc_impl_areLines_1 (a : Nat) (b : Nat) (d : Nat) (as : List AV) : T AV := match d with | 4 => oc1_impl_IsFiniteComplex as | _ => .fail



theorem q_impl_areLines_1 {P : Program} {g_f : FuncId} {g_impl_IsFiniteComplex : FuncId} (h_ : Is_impl_areLines_1 P g_f g_impl_IsFiniteComplex) (a : Nat) (b : Nat) (ht : T.ok (fun x_ => x_ = .b (!(finM a && finM b))) (
      T.ob ((VCall P) g_impl_IsFiniteComplex [AV.c FloatKind.f32 a b] (AV.b (finM a && finM b))) (T.leaf (AV.b !(finM a && finM b))))) :
    VCall P g_f [.c .f32 a b] (.b (!(finM a && finM b))) := h_.call_of ps_impl_areLines_1 ⟨oc_impl_areLines_1 a b, fun _ _ => none⟩ (by kernel_rfl) ht

-- END impl_areLines_1
-- FN impl_areLines
/-- impl.areLines: slots 6, results [.t 2]; calls [4:g_slices_ContainsFunc___complex64_complex64_]; names [(list, 0), (list, 1)] -/
def ps_impl_areLines : List Nat := [0, 2]
def b_impl_areLines (g_slices_ContainsFunc___complex64_complex64_ g_impl_areLines_1 : FuncId) : VCode :=
  (.seq
   (.region false [
    ⟨some 2, .mv, [.k (.b false)], none⟩])
   (.seq
    (.region false [
     ⟨some 3, .mv, [.t 0], none⟩,
     ⟨some 4, (.call g_slices_ContainsFunc___complex64_complex64_), [.t 3, .k (.fn g_impl_areLines_1 [])], none⟩,
     ⟨some 5, .not, [.t 4], none⟩,
     ⟨some 2, .mv, [.t 5], none⟩])
    .ret))

abbrev Is_impl_areLines (P : Program) (g_f : FuncId) (g_slices_ContainsFunc___complex64_complex64_ g_impl_areLines_1 : FuncId) : Prop := FnIs P g_f 6 [.t 2] (b_impl_areLines g_slices_ContainsFunc___complex64_complex64_ g_impl_areLines_1)

abbrev C_impl_areLines (P : Program) (g_f : FuncId) : Prop := ∀ (xs : LC) (hx : xs.length ≤ maxLen), VCall P g_f [PC [0] xs] (.b (finAllC xs))
def oc1_impl_areLines (as : List AV) : T AV := match as with | [.sl _ _ (.c _ xs)] => .leaf (.b (finAllC xs)) | _ => .fail
def oc_impl_areLines (xs : LC) (d : Nat) (as : List AV) : T AV := match d with | 4 => .leaf (.b (xs.any fun z => !finC z)) | _ => .fail



theorem q_impl_areLines {P : Program} {g_f : FuncId} {g_slices_ContainsFunc___complex64_complex64_ g_impl_areLines_1 : FuncId} (h_ : Is_impl_areLines P g_f g_slices_ContainsFunc___complex64_complex64_ g_impl_areLines_1) (xs : LC) (ht : T.ok (fun x_ => x_ = .b (finAllC xs)) (
      T.ob ((VCall P) g_slices_ContainsFunc___complex64_complex64_ [AV.sl (Tag.par [0]) 0 (Cont.c FloatKind.f32 xs), AV.fn g_impl_areLines_1 []] (AV.b (List.any xs fun (z : Nat × Nat) => !finC z)))
        (T.leaf (AV.b !List.any xs fun (z : Nat × Nat) => !finC z)))) :
    VCall P g_f [PC [0] xs] (.b (finAllC xs)) := h_.call_of ps_impl_areLines ⟨oc_impl_areLines xs, fun _ _ => none⟩ (by kernel_rfl) ht

-- END impl_areLines
-- FN spec_l02CFinite
/-- spec.l02CFinite: slots 16, results [.t 2]; calls [14:g_spec_l01CFinite]; names [(list, 0), (list, 1), (i, 3)] -/
def ps_spec_l02CFinite : List Nat := [0, 2, 3, 7, 15]
def lv_spec_l02CFinite_L0 : List Nat := [0, 3]
def b_spec_l02CFinite_L0 (g_spec_l01CFinite : FuncId) : VCode :=
  (.seq
   (.seq
    (.region false [
     ⟨some 4, .mv, [.t 3], none⟩,
     ⟨some 5, .mv, [.t 0], none⟩,
     ⟨some 6, .len, [.t 5], none⟩,
     ⟨some 7, (.bin .lss), [.t 4, .t 6], none⟩])
    (.cond (.t 7)
     .skip
     (.exit 0)))
   (.seq
    (.block 1
     (.seq
      (.region false [
       ⟨some 10, .mv, [.t 0], none⟩,
       ⟨some 11, .mv, [.t 3], none⟩,
       ⟨some 12, .iaddr, [.t 10, .t 11], none⟩,
       ⟨some 13, .load, [.t 12], none⟩,
       ⟨some 14, (.call g_spec_l01CFinite), [.t 13], none⟩,
       ⟨some 15, .not, [.t 14], none⟩])
      (.cond (.t 15)
       (.seq
        (.region false [
         ⟨some 2, .mv, [.k (.b false)], none⟩])
        .ret)
       .skip)))
    (.region false [
     ⟨some 8, .mv, [.t 3], none⟩,
     ⟨some 9, (.bin .add), [.t 8, .k (.i .i64 1)], none⟩,
     ⟨some 3, .mv, [.t 9], none⟩])))

def b_spec_l02CFinite (g_spec_l01CFinite : FuncId) : VCode :=
  (.seq
   (.region false [
    ⟨some 2, .mv, [.k (.b false)], none⟩])
   (.seq
    (.seq
     (.region false [
      ⟨some 3, .mv, [.k (.i .i64 0)], none⟩])
     (.block 0 (.loop (b_spec_l02CFinite_L0 g_spec_l01CFinite))))
    (.seq
     (.region false [
      ⟨some 2, .mv, [.k (.b true)], none⟩])
     .ret)))

abbrev Is_spec_l02CFinite (P : Program) (g_f : FuncId) (g_spec_l01CFinite : FuncId) : Prop := FnIs P g_f 16 [.t 2] (b_spec_l02CFinite g_spec_l01CFinite)

abbrev C_spec_l02CFinite (P : Program) (g_f : FuncId) : Prop := ∀ (xs : LC) (hx : xs.length ≤ maxLen), VCall P g_f [PC [0] xs] (.b (finAllC xs))
def oc1_spec_l02CFinite (as : List AV) : T AV := match as with | [.sl _ _ (.c _ xs)] => .leaf (.b (finAllC xs)) | _ => .fail
def oc_spec_l02CFinite (xs : LC) (d : Nat) (as : List AV) : T AV := match d with | 14 => oc1_spec_l01CFinite as | _ => .fail
def h_spec_l02CFinite_L0 (xs : LC) (i : Int) : Env := [AV.sl (Tag.par [0]) 0 (Cont.c FloatKind.f32 xs), .any, .any, .i IntKind.i64 i] ++ anys 12

theorem q_spec_l02CFinite_L0 {VC : FuncId → List AV → AV → Prop} {g_spec_l01CFinite : FuncId} (xs : LC) (i : Int) {e_ : Ex} {σ_ : Env} (ht : T.ok (fun x_ => x_ = (e_, σ_)) (
      T.ite (decide (i < (↑(List.length xs) : Int)))
        (T.ob (0 ≤ i ∧ i < (↑(List.length xs) : Int))
          (T.ob
            (VC g_spec_l01CFinite [AV.c FloatKind.f32 (Prod.fst (List.getD xs (Int.toNat i) (0, 0))) (Prod.snd (List.getD xs (Int.toNat i) (0, 0)))]
              (AV.b (finM (Prod.fst (List.getD xs (Int.toNat i) (0, 0))) && finM (Prod.snd (List.getD xs (Int.toNat i) (0, 0))))))
            (T.ite (!(finM (Prod.fst (List.getD xs (Int.toNat i) (0, 0))) && finM (Prod.snd (List.getD xs (Int.toNat i) (0, 0))))) (T.leaf (Ex.ret, AV.any :: AV.any :: AV.b false :: anys 13))
              (T.leaf (Ex.normal, h_spec_l02CFinite_L0 xs (IntKind.wrap IntKind.i64 (i + 1)))))))
        (T.leaf (Ex.exit 0, h_spec_l02CFinite_L0 xs i)))) :
    Exec VC ps_spec_l02CFinite (b_spec_l02CFinite_L0 g_spec_l01CFinite) (h_spec_l02CFinite_L0 xs i) e_ σ_ := evL_of (lv := lv_spec_l02CFinite_L0) (rs := [2]) (O := ⟨oc_spec_l02CFinite xs, fun _ _ => none⟩) (by kernel_rfl) ht

theorem q_spec_l02CFinite {P : Program} {g_f : FuncId} {g_spec_l01CFinite : FuncId} (h_ : Is_spec_l02CFinite P g_f g_spec_l01CFinite) (xs : LC) (ht : T.ok (fun x_ => x_ = .b (finAllC xs)) (
      T.ite (decide (List.findIdx (fun (x : Nat × Nat) => !finC x) xs < List.length xs))
        (T.ob (Exec (VCall P) ps_spec_l02CFinite (VCode.block 0 (VCode.loop (b_spec_l02CFinite_L0 g_spec_l01CFinite))) (h_spec_l02CFinite_L0 xs 0) Ex.ret (AV.any :: AV.any :: AV.b false :: anys 13)) (T.leaf (AV.b false)))
        (T.ob (Exec (VCall P) ps_spec_l02CFinite (VCode.block 0 (VCode.loop (b_spec_l02CFinite_L0 g_spec_l01CFinite))) (h_spec_l02CFinite_L0 xs 0) Ex.normal (h_spec_l02CFinite_L0 xs (↑(List.length xs) : Int))) (T.leaf (AV.b true))))) :
    VCall P g_f [PC [0] xs] (.b (finAllC xs)) := h_.call_of ps_spec_l02CFinite ⟨oc_spec_l02CFinite xs, fun id σ => match id with | 0 => some (lv_spec_l02CFinite_L0, .ite (decide (xs.findIdx (fun x => !finC x) < xs.length)) (.leaf (.ret, ret1 16 2 (.b false))) (.leaf (.normal, h_spec_l02CFinite_L0 xs xs.length))) | _ => none⟩ (by kernel_rfl) ht

-- END spec_l02CFinite
-- FN impl_lineOf
/-- impl.lineOf: slots 31, results [.t 4]; calls [25:g_impl_PhasorOf, 27:g_impl_ScaleComplex, 28:g_impl_plus]; names [(a, 0), (k, 1), (a, 2), (k, 3), (sum, 5), (place, 6), (x, 7)] -/
def ps_impl_lineOf : List Nat := [0, 1, 4, 5, 6, 7, 8, 9, 10, 11]
def lv_impl_lineOf_L0 : List Nat := [0, 1, 5, 8, 9, 10]
def b_impl_lineOf_L0 (g_impl_PhasorOf g_impl_ScaleComplex g_impl_plus : FuncId) : VCode :=
  (.seq
   (.region false [
    ⟨some 11, (.bin .lss), [.t 10, .t 9], none⟩])
   (.seq
    (.cond (.t 11)
     .skip
     (.exit 0))
    (.seq
     (.block 1
      (.seq
       (.region false [
        ⟨some 12, .mv, [.t 10], none⟩,
        ⟨some 13, .iaddr, [.t 8, .t 10], none⟩,
        ⟨some 14, .load, [.t 13], none⟩,
        ⟨some 6, .mv, [.t 12], none⟩,
        ⟨some 7, .mv, [.t 14], none⟩])
       (.region false [
        ⟨some 15, .mv, [.t 5], none⟩,
        ⟨some 16, .mv, [.t 1], none⟩,
        ⟨some 17, .mv, [.t 6], none⟩,
        ⟨some 18, (.bin .mul), [.t 16, .t 17], none⟩,
        ⟨some 19, (.convF .f64), [.t 18], none⟩,
        ⟨some 20, .mv, [.t 0], none⟩,
        ⟨some 21, .len, [.t 20], none⟩,
        ⟨some 22, (.convF .f64), [.t 21], none⟩,
        ⟨some 23, (.bin .quo), [.t 19, .t 22], none⟩,
        ⟨some 24, .neg, [.t 23], none⟩,
        ⟨some 25, (.call g_impl_PhasorOf), [.t 24], none⟩,
        ⟨some 26, .mv, [.t 7], none⟩,
        ⟨some 27, (.call g_impl_ScaleComplex), [.t 25, .t 26], none⟩,
        ⟨some 28, (.call g_impl_plus), [.t 15, .t 27], none⟩,
        ⟨some 5, .mv, [.t 28], none⟩])))
     (.region false [
      ⟨some 29, (.bin .add), [.t 10, .k (.i .i64 1)], none⟩,
      ⟨some 10, .mv, [.t 29], none⟩]))))

def b_impl_lineOf (g_impl_PhasorOf g_impl_ScaleComplex g_impl_plus : FuncId) : VCode :=
  (.seq
   (.region false [
    ⟨some 4, .mv, [.k (.c .f32 0 0)], none⟩])
   (.seq
    (.region false [
     ⟨some 5, .mv, [.k (.c .f32 0 0)], none⟩])
    (.seq
     (.seq
      (.region false [
       ⟨some 8, .mv, [.t 0], none⟩,
       ⟨some 9, .len, [.t 8], none⟩,
       ⟨some 10, .mv, [.k (.i .i64 0)], none⟩])
      (.block 0 (.loop (b_impl_lineOf_L0 g_impl_PhasorOf g_impl_ScaleComplex g_impl_plus))))
     (.seq
      (.region false [
       ⟨some 30, .mv, [.t 5], none⟩,
       ⟨some 4, .mv, [.t 30], none⟩])
      .ret))))

abbrev Is_impl_lineOf (P : Program) (g_f : FuncId) (g_impl_PhasorOf g_impl_ScaleComplex g_impl_plus : FuncId) : Prop := FnIs P g_f 31 [.t 4] (b_impl_lineOf g_impl_PhasorOf g_impl_ScaleComplex g_impl_plus)

abbrev C_impl_lineOf (P : Program) (g_f : FuncId) : Prop := ∀ (a : List Nat) (k : Int) (hx : a.length ≤ 96) (hk : 0 ≤ k ∧ k ≤ 96), VCall P g_f [PS [0] .f32 a, .i .i64 k] (.c .f32 (lnM a k a.length).1 (lnM a k a.length).2)
def oc1_impl_lineOf (as : List AV) : T AV := match as with | [.sl _ _ (.f .f32 a), .i .i64 k] => .leaf (.c .f32 (lnM a k a.length).1 (lnM a k a.length).2) | _ => .fail
def oc_impl_lineOf (a : List Nat) (k : Int) (d : Nat) (as : List AV) : T AV := match d with | 25 => oc1_impl_PhasorOf as | 27 => oc1_impl_ScaleComplex as | 28 => oc1_impl_plus as | _ => .fail
def h_impl_lineOf_L0 (a : List Nat) (k : Int) (sumR : Nat) (sumI : Nat) (v10 : Int) : Env := [AV.sl (Tag.par [0]) 0 (Cont.f FloatKind.f32 a), AV.i IntKind.i64 k, .any, .any, .any, .c FloatKind.f32 sumR sumI, .any, .any, AV.sl (Tag.par [0]) 0 (Cont.f FloatKind.f32 a), AV.i IntKind.i64 (↑(List.length a) : Int), .i IntKind.i64 v10] ++ anys 20

theorem q_impl_lineOf_L0 {VC : FuncId → List AV → AV → Prop} {g_impl_PhasorOf g_impl_ScaleComplex g_impl_plus : FuncId} (a : List Nat) (k : Int) (sumR : Nat) (sumI : Nat) (v10 : Int) {e_ : Ex} {σ_ : Env} (ht : T.ok (fun x_ => x_ = (e_, σ_)) (
      T.ite (decide (v10 < (↑(List.length a) : Int)))
        (T.ob (0 ≤ v10 ∧ v10 < (↑(List.length a) : Int))
          (T.ob True
            (T.ob True
              (T.ob True
                (T.ob
                  (VC g_impl_PhasorOf [AV.f FloatKind.f64 (fneg FloatKind.f64 (fdiv FloatKind.f64 (fofi FloatKind.f64 (IntKind.wrap IntKind.i64 (k * v10))) (fofi FloatKind.f64 (↑(List.length a) : Int))))]
                    (AV.c FloatKind.f32 (Prod.fst (phM (fneg FloatKind.f64 (fdiv FloatKind.f64 (fofi FloatKind.f64 (IntKind.wrap IntKind.i64 (k * v10))) (fofi FloatKind.f64 (↑(Cont.len (Cont.f FloatKind.f32 a)) : Int))))))
                      (Prod.snd (phM (fneg FloatKind.f64 (fdiv FloatKind.f64 (fofi FloatKind.f64 (IntKind.wrap IntKind.i64 (k * v10))) (fofi FloatKind.f64 (↑(Cont.len (Cont.f FloatKind.f32 a)) : Int))))))))
                  (T.ob
                    (VC g_impl_ScaleComplex
                      [AV.c FloatKind.f32 (Prod.fst (phM (fneg FloatKind.f64 (fdiv FloatKind.f64 (fofi FloatKind.f64 (IntKind.wrap IntKind.i64 (k * v10))) (fofi FloatKind.f64 (↑(Cont.len (Cont.f FloatKind.f32 a)) : Int))))))
                          (Prod.snd (phM (fneg FloatKind.f64 (fdiv FloatKind.f64 (fofi FloatKind.f64 (IntKind.wrap IntKind.i64 (k * v10))) (fofi FloatKind.f64 (↑(Cont.len (Cont.f FloatKind.f32 a)) : Int)))))),
                        AV.f FloatKind.f32 (List.getD a (Int.toNat v10) 0)]
                      (AV.c FloatKind.f32
                        (fmul FloatKind.f32 (Prod.fst (phM (fneg FloatKind.f64 (fdiv FloatKind.f64 (fofi FloatKind.f64 (IntKind.wrap IntKind.i64 (k * v10))) (fofi FloatKind.f64 (↑(Cont.len (Cont.f FloatKind.f32 a)) : Int))))))
                          (List.getD a (Int.toNat v10) 0))
                        (fmul FloatKind.f32 (Prod.snd (phM (fneg FloatKind.f64 (fdiv FloatKind.f64 (fofi FloatKind.f64 (IntKind.wrap IntKind.i64 (k * v10))) (fofi FloatKind.f64 (↑(Cont.len (Cont.f FloatKind.f32 a)) : Int))))))
                          (List.getD a (Int.toNat v10) 0))))
                    (T.ob
                      (VC g_impl_plus
                        [AV.c FloatKind.f32 sumR sumI,
                          AV.c FloatKind.f32
                            (fmul FloatKind.f32
                              (Prod.fst (phM (fneg FloatKind.f64 (fdiv FloatKind.f64 (fofi FloatKind.f64 (IntKind.wrap IntKind.i64 (k * v10))) (fofi FloatKind.f64 (↑(Cont.len (Cont.f FloatKind.f32 a)) : Int))))))
                              (List.getD a (Int.toNat v10) 0))
                            (fmul FloatKind.f32
                              (Prod.snd (phM (fneg FloatKind.f64 (fdiv FloatKind.f64 (fofi FloatKind.f64 (IntKind.wrap IntKind.i64 (k * v10))) (fofi FloatKind.f64 (↑(Cont.len (Cont.f FloatKind.f32 a)) : Int))))))
                              (List.getD a (Int.toNat v10) 0))]
                        (AV.c FloatKind.f32
                          (fadd FloatKind.f32 sumR
                            (fmul FloatKind.f32
                              (Prod.fst (phM (fneg FloatKind.f64 (fdiv FloatKind.f64 (fofi FloatKind.f64 (IntKind.wrap IntKind.i64 (k * v10))) (fofi FloatKind.f64 (↑(Cont.len (Cont.f FloatKind.f32 a)) : Int))))))
                              (List.getD a (Int.toNat v10) 0)))
                          (fadd FloatKind.f32 sumI
                            (fmul FloatKind.f32
                              (Prod.snd (phM (fneg FloatKind.f64 (fdiv FloatKind.f64 (fofi FloatKind.f64 (IntKind.wrap IntKind.i64 (k * v10))) (fofi FloatKind.f64 (↑(Cont.len (Cont.f FloatKind.f32 a)) : Int))))))
                              (List.getD a (Int.toNat v10) 0)))))
                      (T.leaf
                        (Ex.normal,
                          h_impl_lineOf_L0 a k
                            (fadd FloatKind.f32 sumR
                              (fmul FloatKind.f32
                                (Prod.fst (phM (fneg FloatKind.f64 (fdiv FloatKind.f64 (fofi FloatKind.f64 (IntKind.wrap IntKind.i64 (k * v10))) (fofi FloatKind.f64 (↑(Cont.len (Cont.f FloatKind.f32 a)) : Int))))))
                                (List.getD a (Int.toNat v10) 0)))
                            (fadd FloatKind.f32 sumI
                              (fmul FloatKind.f32
                                (Prod.snd (phM (fneg FloatKind.f64 (fdiv FloatKind.f64 (fofi FloatKind.f64 (IntKind.wrap IntKind.i64 (k * v10))) (fofi FloatKind.f64 (↑(Cont.len (Cont.f FloatKind.f32 a)) : Int))))))
                                (List.getD a (Int.toNat v10) 0)))
                            (IntKind.wrap IntKind.i64 (v10 + 1)))))))))))
        (T.leaf (Ex.exit 0, h_impl_lineOf_L0 a k sumR sumI v10)))) :
    Exec VC ps_impl_lineOf (b_impl_lineOf_L0 g_impl_PhasorOf g_impl_ScaleComplex g_impl_plus) (h_impl_lineOf_L0 a k sumR sumI v10) e_ σ_ := evL_of (lv := lv_impl_lineOf_L0) (rs := [4]) (O := ⟨oc_impl_lineOf a k, fun _ _ => none⟩) (by kernel_rfl) ht

theorem q_impl_lineOf {P : Program} {g_f : FuncId} {g_impl_PhasorOf g_impl_ScaleComplex g_impl_plus : FuncId} (h_ : Is_impl_lineOf P g_f g_impl_PhasorOf g_impl_ScaleComplex g_impl_plus) (a : List Nat) (k : Int) (ht : T.ok (fun x_ => x_ = .c .f32 (lnM a k a.length).1 (lnM a k a.length).2) (
      T.ob
        (Exec (VCall P) ps_impl_lineOf (VCode.block 0 (VCode.loop (b_impl_lineOf_L0 g_impl_PhasorOf g_impl_ScaleComplex g_impl_plus))) (h_impl_lineOf_L0 a k 0 0 0) Ex.normal
          (h_impl_lineOf_L0 a k (Prod.fst (lnM a k (List.length a))) (Prod.snd (lnM a k (List.length a))) (↑(List.length a) : Int)))
        (T.leaf (AV.c FloatKind.f32 (Prod.fst (lnM a k (List.length a))) (Prod.snd (lnM a k (List.length a))))))) :
    VCall P g_f [PS [0] .f32 a, .i .i64 k] (.c .f32 (lnM a k a.length).1 (lnM a k a.length).2) := h_.call_of ps_impl_lineOf ⟨oc_impl_lineOf a k, fun id σ => match id with | 0 => some (lv_impl_lineOf_L0, .leaf (.normal, h_impl_lineOf_L0 a k (lnM a k a.length).1 (lnM a k a.length).2 a.length)) | _ => none⟩ (by kernel_rfl) ht

-- END impl_lineOf
-- FN spec_l03Line
/-- spec.l03Line: slots 33, results [.t 4]; calls [24:g_spec_l01Phasor, 29:g_spec_l01Scale]; names [(a, 0), (k, 1), (a, 2), (k, 3), (sum, 5), (i, 6), (q, 7)] -/
def ps_spec_l03Line : List Nat := [0, 1, 4, 5, 6, 7, 9, 10, 11]
def lv_spec_l03Line_L0 : List Nat := [0, 1, 5, 9, 10]
def b_spec_l03Line_L0 (g_spec_l01Phasor g_spec_l01Scale : FuncId) : VCode :=
  (.seq
   (.region false [
    ⟨some 11, (.bin .lss), [.t 10, .t 9], none⟩])
   (.seq
    (.cond (.t 11)
     .skip
     (.exit 0))
    (.seq
     (.block 1
      (.seq
       (.region false [
        ⟨some 12, .mv, [.t 10], none⟩,
        ⟨some 6, .mv, [.t 12], none⟩])
       (.seq
        (.region false [
         ⟨some 13, .mv, [.t 1], none⟩,
         ⟨some 14, .mv, [.t 6], none⟩,
         ⟨some 15, (.bin .mul), [.t 13, .t 14], none⟩,
         ⟨some 16, (.convF .f64), [.t 15], none⟩,
         ⟨some 17, .mv, [.t 0], none⟩,
         ⟨some 18, .len, [.t 17], none⟩,
         ⟨some 19, (.convF .f64), [.t 18], none⟩,
         ⟨some 20, (.bin .quo), [.t 16, .t 19], none⟩,
         ⟨some 21, .neg, [.t 20], none⟩,
         ⟨some 7, .mv, [.t 21], none⟩])
        (.region true [
         ⟨some 22, .mv, [.t 5], none⟩,
         ⟨some 23, .mv, [.t 7], none⟩,
         ⟨some 24, (.call g_spec_l01Phasor), [.t 23], none⟩,
         ⟨some 25, .mv, [.t 0], none⟩,
         ⟨some 26, .mv, [.t 6], none⟩,
         ⟨some 27, .iaddr, [.t 25, .t 26], none⟩,
         ⟨some 28, .load, [.t 27], none⟩,
         ⟨some 29, (.call g_spec_l01Scale), [.t 24, .t 28], none⟩,
         ⟨some 30, (.bin .add), [.t 22, .t 29], none⟩,
         ⟨some 5, .mv, [.t 30], none⟩]))))
     (.region false [
      ⟨some 31, (.bin .add), [.t 10, .k (.i .i64 1)], none⟩,
      ⟨some 10, .mv, [.t 31], none⟩]))))

def b_spec_l03Line (g_spec_l01Phasor g_spec_l01Scale : FuncId) : VCode :=
  (.seq
   (.region false [
    ⟨some 4, .mv, [.k (.c .f32 0 0)], none⟩])
   (.seq
    (.region false [
     ⟨some 5, .mv, [.k (.c .f32 0 0)], none⟩])
    (.seq
     (.seq
      (.region false [
       ⟨some 8, .mv, [.t 0], none⟩,
       ⟨some 9, .len, [.t 8], none⟩,
       ⟨some 10, .mv, [.k (.i .i64 0)], none⟩])
      (.block 0 (.loop (b_spec_l03Line_L0 g_spec_l01Phasor g_spec_l01Scale))))
     (.seq
      (.region false [
       ⟨some 32, .mv, [.t 5], none⟩,
       ⟨some 4, .mv, [.t 32], none⟩])
      .ret))))

abbrev Is_spec_l03Line (P : Program) (g_f : FuncId) (g_spec_l01Phasor g_spec_l01Scale : FuncId) : Prop := FnIs P g_f 33 [.t 4] (b_spec_l03Line g_spec_l01Phasor g_spec_l01Scale)

abbrev C_spec_l03Line (P : Program) (g_f : FuncId) : Prop := ∀ (a : List Nat) (k : Int) (hx : a.length ≤ 96) (hk : 0 ≤ k ∧ k ≤ 96), VCall P g_f [PS [0] .f32 a, .i .i64 k] (.c .f32 (lnM a k a.length).1 (lnM a k a.length).2)
def oc1_spec_l03Line (as : List AV) : T AV := match as with | [.sl _ _ (.f .f32 a), .i .i64 k] => .leaf (.c .f32 (lnM a k a.length).1 (lnM a k a.length).2) | _ => .fail
def oc_spec_l03Line (a : List Nat) (k : Int) (d : Nat) (as : List AV) : T AV := match d with | 24 => oc1_spec_l01Phasor as | 29 => oc1_spec_l01Scale as | _ => .fail
def h_spec_l03Line_L0 (a : List Nat) (k : Int) (sumR : Nat) (sumI : Nat) (v10 : Int) : Env := [AV.sl (Tag.par [0]) 0 (Cont.f FloatKind.f32 a), AV.i IntKind.i64 k, .any, .any, .any, .c FloatKind.f32 sumR sumI, .any, .any, .any, AV.i IntKind.i64 (↑(List.length a) : Int), .i IntKind.i64 v10] ++ anys 22

theorem q_spec_l03Line_L0 {VC : FuncId → List AV → AV → Prop} {g_spec_l01Phasor g_spec_l01Scale : FuncId} (a : List Nat) (k : Int) (sumR : Nat) (sumI : Nat) (v10 : Int) {e_ : Ex} {σ_ : Env} (ht : T.ok (fun x_ => x_ = (e_, σ_)) (
      T.ite (decide (v10 < (↑(List.length a) : Int)))
        (T.ob True
          (T.ob True
            (T.ob True
              (T.ob
                (VC g_spec_l01Phasor [AV.f FloatKind.f64 (fneg FloatKind.f64 (fdiv FloatKind.f64 (fofi FloatKind.f64 (IntKind.wrap IntKind.i64 (k * v10))) (fofi FloatKind.f64 (↑(List.length a) : Int))))]
                  (AV.c FloatKind.f32 (Prod.fst (phM (fneg FloatKind.f64 (fdiv FloatKind.f64 (fofi FloatKind.f64 (IntKind.wrap IntKind.i64 (k * v10))) (fofi FloatKind.f64 (↑(Cont.len (Cont.f FloatKind.f32 a)) : Int))))))
                    (Prod.snd (phM (fneg FloatKind.f64 (fdiv FloatKind.f64 (fofi FloatKind.f64 (IntKind.wrap IntKind.i64 (k * v10))) (fofi FloatKind.f64 (↑(Cont.len (Cont.f FloatKind.f32 a)) : Int))))))))
                (T.ob (0 ≤ v10 ∧ v10 < (↑(List.length a) : Int))
                  (T.ob
                    (VC g_spec_l01Scale
                      [AV.c FloatKind.f32 (Prod.fst (phM (fneg FloatKind.f64 (fdiv FloatKind.f64 (fofi FloatKind.f64 (IntKind.wrap IntKind.i64 (k * v10))) (fofi FloatKind.f64 (↑(Cont.len (Cont.f FloatKind.f32 a)) : Int))))))
                          (Prod.snd (phM (fneg FloatKind.f64 (fdiv FloatKind.f64 (fofi FloatKind.f64 (IntKind.wrap IntKind.i64 (k * v10))) (fofi FloatKind.f64 (↑(Cont.len (Cont.f FloatKind.f32 a)) : Int)))))),
                        AV.f FloatKind.f32 (List.getD a (Int.toNat v10) 0)]
                      (AV.c FloatKind.f32
                        (fmul FloatKind.f32 (Prod.fst (phM (fneg FloatKind.f64 (fdiv FloatKind.f64 (fofi FloatKind.f64 (IntKind.wrap IntKind.i64 (k * v10))) (fofi FloatKind.f64 (↑(Cont.len (Cont.f FloatKind.f32 a)) : Int))))))
                          (List.getD a (Int.toNat v10) 0))
                        (fmul FloatKind.f32 (Prod.snd (phM (fneg FloatKind.f64 (fdiv FloatKind.f64 (fofi FloatKind.f64 (IntKind.wrap IntKind.i64 (k * v10))) (fofi FloatKind.f64 (↑(Cont.len (Cont.f FloatKind.f32 a)) : Int))))))
                          (List.getD a (Int.toNat v10) 0))))
                    (T.leaf
                      (Ex.normal,
                        h_spec_l03Line_L0 a k
                          (fadd FloatKind.f32 sumR
                            (fmul FloatKind.f32
                              (Prod.fst (phM (fneg FloatKind.f64 (fdiv FloatKind.f64 (fofi FloatKind.f64 (IntKind.wrap IntKind.i64 (k * v10))) (fofi FloatKind.f64 (↑(Cont.len (Cont.f FloatKind.f32 a)) : Int))))))
                              (List.getD a (Int.toNat v10) 0)))
                          (fadd FloatKind.f32 sumI
                            (fmul FloatKind.f32
                              (Prod.snd (phM (fneg FloatKind.f64 (fdiv FloatKind.f64 (fofi FloatKind.f64 (IntKind.wrap IntKind.i64 (k * v10))) (fofi FloatKind.f64 (↑(Cont.len (Cont.f FloatKind.f32 a)) : Int))))))
                              (List.getD a (Int.toNat v10) 0)))
                          (IntKind.wrap IntKind.i64 (v10 + 1))))))))))
        (T.leaf (Ex.exit 0, h_spec_l03Line_L0 a k sumR sumI v10)))) :
    Exec VC ps_spec_l03Line (b_spec_l03Line_L0 g_spec_l01Phasor g_spec_l01Scale) (h_spec_l03Line_L0 a k sumR sumI v10) e_ σ_ := evL_of (lv := lv_spec_l03Line_L0) (rs := [4]) (O := ⟨oc_spec_l03Line a k, fun _ _ => none⟩) (by kernel_rfl) ht

theorem q_spec_l03Line {P : Program} {g_f : FuncId} {g_spec_l01Phasor g_spec_l01Scale : FuncId} (h_ : Is_spec_l03Line P g_f g_spec_l01Phasor g_spec_l01Scale) (a : List Nat) (k : Int) (ht : T.ok (fun x_ => x_ = .c .f32 (lnM a k a.length).1 (lnM a k a.length).2) (
      T.ob
        (Exec (VCall P) ps_spec_l03Line (VCode.block 0 (VCode.loop (b_spec_l03Line_L0 g_spec_l01Phasor g_spec_l01Scale))) (h_spec_l03Line_L0 a k 0 0 0) Ex.normal
          (h_spec_l03Line_L0 a k (Prod.fst (lnM a k (List.length a))) (Prod.snd (lnM a k (List.length a))) (↑(List.length a) : Int)))
        (T.leaf (AV.c FloatKind.f32 (Prod.fst (lnM a k (List.length a))) (Prod.snd (lnM a k (List.length a))))))) :
    VCall P g_f [PS [0] .f32 a, .i .i64 k] (.c .f32 (lnM a k a.length).1 (lnM a k a.length).2) := h_.call_of ps_spec_l03Line ⟨oc_spec_l03Line a k, fun id σ => match id with | 0 => some (lv_spec_l03Line_L0, .leaf (.normal, h_spec_l03Line_L0 a k (lnM a k a.length).1 (lnM a k a.length).2 a.length)) | _ => none⟩ (by kernel_rfl) ht

-- END spec_l03Line
-- FN impl_LinesOf
/-- impl.LinesOf: slots 28, results [.t 2, .t 3]; calls [7:g_impl_IsSeries, 20:g_impl_lineOf, 25:g_impl_areLines]; names [(a, 0), (a, 1), (out, 4), (k, 5)] -/
def ps_impl_LinesOf : List Nat := [0, 2, 3, 4, 5, 8, 13, 14, 15, 26]
def lv_impl_LinesOf_L0 : List Nat := [0, 4, 13, 14]
def b_impl_LinesOf_L0 (g_impl_IsSeries g_impl_lineOf g_impl_areLines : FuncId) : VCode :=
  (.seq
   (.region false [
    ⟨some 15, (.bin .lss), [.t 14, .t 13], none⟩])
   (.seq
    (.cond (.t 15)
     .skip
     (.exit 0))
    (.seq
     (.block 1
      (.seq
       (.region false [
        ⟨some 16, .mv, [.t 14], none⟩,
        ⟨some 5, .mv, [.t 16], none⟩])
       (.region false [
        ⟨some 17, .mv, [.t 4], none⟩,
        ⟨some 18, .mv, [.t 0], none⟩,
        ⟨some 19, .mv, [.t 5], none⟩,
        ⟨some 20, (.call g_impl_lineOf), [.t 18, .t 19], none⟩,
        ⟨some 21, (.lit true (.c .f32 [])), [.t 20], none⟩,
        ⟨some 22, .app, [.t 17, .t 21], none⟩,
        ⟨some 4, .mv, [.t 22], none⟩])))
     (.region false [
      ⟨some 23, (.bin .add), [.t 14, .k (.i .i64 1)], none⟩,
      ⟨some 14, .mv, [.t 23], none⟩]))))

def b_impl_LinesOf (g_impl_IsSeries g_impl_lineOf g_impl_areLines : FuncId) : VCode :=
  (.seq
   (.region false [
    ⟨some 2, (.nilsl (.c .f32 [])), [], none⟩,
    ⟨some 3, .mv, [.k (.b false)], none⟩])
   (.seq
    (.seq
     (.region false [
      ⟨some 6, .mv, [.t 0], none⟩,
      ⟨some 7, (.call g_impl_IsSeries), [.t 6], none⟩,
      ⟨some 8, .not, [.t 7], none⟩])
     (.cond (.t 8)
      (.seq
       (.region false [
        ⟨some 2, (.nilsl (.c .f32 [])), [], none⟩,
        ⟨some 3, .mv, [.k (.b false)], none⟩])
       .ret)
      .skip))
    (.seq
     (.region false [
      ⟨some 9, (.lit true (.c .f32 [])), [], none⟩,
      ⟨some 4, .mv, [.t 9], none⟩])
     (.seq
      (.seq
       (.region false [
        ⟨some 10, .mv, [.t 0], none⟩,
        ⟨some 11, .len, [.t 10], none⟩,
        ⟨some 12, (.bin .quo), [.t 11, .k (.i .i64 2)], none⟩,
        ⟨some 13, (.bin .add), [.t 12, .k (.i .i64 1)], none⟩,
        ⟨some 14, .mv, [.k (.i .i64 0)], none⟩])
       (.block 0 (.loop (b_impl_LinesOf_L0 g_impl_IsSeries g_impl_lineOf g_impl_areLines))))
      (.seq
       (.seq
        (.region false [
         ⟨some 24, .mv, [.t 4], none⟩,
         ⟨some 25, (.call g_impl_areLines), [.t 24], none⟩,
         ⟨some 26, .not, [.t 25], none⟩])
        (.cond (.t 26)
         (.seq
          (.region false [
           ⟨some 2, (.nilsl (.c .f32 [])), [], none⟩,
           ⟨some 3, .mv, [.k (.b false)], none⟩])
          .ret)
         .skip))
       (.seq
        (.region false [
         ⟨some 27, .mv, [.t 4], none⟩,
         ⟨some 2, .mv, [.t 27], none⟩,
         ⟨some 3, .mv, [.k (.b true)], none⟩])
        .ret))))))

abbrev Is_impl_LinesOf (P : Program) (g_f : FuncId) (g_impl_IsSeries g_impl_lineOf g_impl_areLines : FuncId) : Prop := FnIs P g_f 28 [.t 2, .t 3] (b_impl_LinesOf g_impl_IsSeries g_impl_lineOf g_impl_areLines)

abbrev C_impl_LinesOf (P : Program) (g_f : FuncId) : Prop := ∀ (a : List Nat) (hx : a.length ≤ maxLen), VCall P g_f [PS [0] .f32 a] (.tup [OC 0 (if lnsOk a = true then lnsM a (a.length / 2 + 1) else []), .b (lnsOk a)])
def oc1_impl_LinesOf (as : List AV) : T AV := match as with | [.sl _ _ (.f .f32 a)] => .leaf (.tup [OC 0 (if lnsOk a = true then lnsM a (a.length / 2 + 1) else []), .b (lnsOk a)]) | _ => .fail
def oc_impl_LinesOf (a : List Nat) (d : Nat) (as : List AV) : T AV := match d with | 7 => oc1_impl_IsSeries as | 20 => oc1_impl_lineOf as | 25 => oc1_impl_areLines as | _ => .fail
def h_impl_LinesOf_L0 (a : List Nat) (out : LC) (v14 : Int) : Env := [AV.sl (Tag.par [0]) 0 (Cont.f FloatKind.f32 a), .any, .any, .any, .sl (Tag.own 72) 0 (.c FloatKind.f32 out)] ++ anys 8 ++ [AV.i IntKind.i64 (IntKind.wrap IntKind.i64 (IntKind.wrap IntKind.i64 (Int.tdiv (↑(List.length a) : Int) 2) + 1)), .i IntKind.i64 v14] ++ anys 13

theorem q_impl_LinesOf_L0 {VC : FuncId → List AV → AV → Prop} {g_impl_IsSeries g_impl_lineOf g_impl_areLines : FuncId} (a : List Nat) (out : LC) (v14 : Int) {e_ : Ex} {σ_ : Env} (ht : T.ok (fun x_ => x_ = (e_, σ_)) (
      T.ite (decide (v14 < IntKind.wrap IntKind.i64 (IntKind.wrap IntKind.i64 (Int.tdiv (↑(List.length a) : Int) 2) + 1)))
        (T.ob (VC g_impl_lineOf [AV.sl (Tag.par [0]) 0 (Cont.f FloatKind.f32 a), AV.i IntKind.i64 v14] (AV.c FloatKind.f32 (Prod.fst (lnM a v14 (List.length a))) (Prod.snd (lnM a v14 (List.length a)))))
          (T.ob (List.length out + List.length [(Prod.fst (lnM a v14 (List.length a)), Prod.snd (lnM a v14 (List.length a)))] ≤ 4294967296)
            (T.leaf (Ex.normal, h_impl_LinesOf_L0 a (out ++ [(Prod.fst (lnM a v14 (List.length a)), Prod.snd (lnM a v14 (List.length a)))]) (IntKind.wrap IntKind.i64 (v14 + 1))))))
        (T.leaf (Ex.exit 0, h_impl_LinesOf_L0 a out v14)))) :
    Exec VC ps_impl_LinesOf (b_impl_LinesOf_L0 g_impl_IsSeries g_impl_lineOf g_impl_areLines) (h_impl_LinesOf_L0 a out v14) e_ σ_ := evL_of (lv := lv_impl_LinesOf_L0) (rs := [2, 3]) (O := ⟨oc_impl_LinesOf a, fun _ _ => none⟩) (by kernel_rfl) ht

theorem q_impl_LinesOf {P : Program} {g_f : FuncId} {g_impl_IsSeries g_impl_lineOf g_impl_areLines : FuncId} (h_ : Is_impl_LinesOf P g_f g_impl_IsSeries g_impl_lineOf g_impl_areLines) (a : List Nat) (ht : T.ok (fun x_ => x_ = .tup [OC 0 (if lnsOk a = true then lnsM a (a.length / 2 + 1) else []), .b (lnsOk a)]) (
      T.ob ((VCall P) g_impl_IsSeries [AV.sl (Tag.par [0]) 0 (Cont.f FloatKind.f32 a)] (AV.b (seriesM a)))
        (T.ite (!seriesM a) (T.leaf (AV.tup [AV.sl (Tag.own 0) 0 (Cont.c FloatKind.f32 (List.take 0 (List.drop 0 []))), AV.b false]))
          (T.ob ((2 : Int) ≠ 0)
            (T.ob
              (Exec (VCall P) ps_impl_LinesOf (VCode.block 0 (VCode.loop (b_impl_LinesOf_L0 g_impl_IsSeries g_impl_lineOf g_impl_areLines))) (h_impl_LinesOf_L0 a [] 0) Ex.normal
                (h_impl_LinesOf_L0 a (lnsM a (List.length a / 2 + 1)) ((↑(List.length a) : Int) / 2 + 1)))
              (T.ob ((VCall P) g_impl_areLines [AV.sl (Tag.par [0]) 0 (Cont.c FloatKind.f32 (lnsM a (List.length a / 2 + 1)))] (AV.b (finAllC (lnsM a (List.length a / 2 + 1)))))
                (T.ite (!finAllC (lnsM a (List.length a / 2 + 1))) (T.leaf (AV.tup [AV.sl (Tag.own 0) 0 (Cont.c FloatKind.f32 (List.take 0 (List.drop 0 []))), AV.b false]))
                  (T.leaf (AV.tup [AV.sl (Tag.own 0) 0 (Cont.c FloatKind.f32 (lnsM a (List.length a / 2 + 1))), AV.b true]))))))))) :
    VCall P g_f [PS [0] .f32 a] (.tup [OC 0 (if lnsOk a = true then lnsM a (a.length / 2 + 1) else []), .b (lnsOk a)]) := h_.call_of ps_impl_LinesOf ⟨oc_impl_LinesOf a, fun id σ => match id with | 0 => some (lv_impl_LinesOf_L0, .leaf (.normal, h_impl_LinesOf_L0 a (lnsM a (a.length / 2 + 1)) (a.length / 2 + 1))) | _ => none⟩ (by kernel_rfl) ht

-- END impl_LinesOf
-- FN spec_l03Lines
/-- spec.l03Lines: slots 20, results [.t 2]; calls [16:g_spec_l03Line]; names [(a, 0), (a, 1), (out, 3), (k, 4)] -/
def ps_spec_l03Lines : List Nat := [0, 2, 3, 4, 10]
def lv_spec_l03Lines_L0 : List Nat := [0, 3, 4]
def b_spec_l03Lines_L0 (g_spec_l03Line : FuncId) : VCode :=
  (.seq
   (.seq
    (.region false [
     ⟨some 6, .mv, [.t 4], none⟩,
     ⟨some 7, .mv, [.t 0], none⟩,
     ⟨some 8, .len, [.t 7], none⟩,
     ⟨some 9, (.bin .quo), [.t 8, .k (.i .i64 2)], none⟩,
     ⟨some 10, (.bin .leq), [.t 6, .t 9], none⟩])
    (.cond (.t 10)
     .skip
     (.exit 0)))
   (.seq
    (.block 1
     (.region false [
      ⟨some 13, .mv, [.t 3], none⟩,
      ⟨some 14, .mv, [.t 0], none⟩,
      ⟨some 15, .mv, [.t 4], none⟩,
      ⟨some 16, (.call g_spec_l03Line), [.t 14, .t 15], none⟩,
      ⟨some 17, (.lit true (.c .f32 [])), [.t 16], none⟩,
      ⟨some 18, .app, [.t 13, .t 17], none⟩,
      ⟨some 3, .mv, [.t 18], none⟩]))
    (.region false [
     ⟨some 11, .mv, [.t 4], none⟩,
     ⟨some 12, (.bin .add), [.t 11, .k (.i .i64 1)], none⟩,
     ⟨some 4, .mv, [.t 12], none⟩])))

def b_spec_l03Lines (g_spec_l03Line : FuncId) : VCode :=
  (.seq
   (.region false [
    ⟨some 2, (.nilsl (.c .f32 [])), [], none⟩])
   (.seq
    (.region false [
     ⟨some 5, (.lit true (.c .f32 [])), [], none⟩,
     ⟨some 3, .mv, [.t 5], none⟩])
    (.seq
     (.seq
      (.region false [
       ⟨some 4, .mv, [.k (.i .i64 0)], none⟩])
      (.block 0 (.loop (b_spec_l03Lines_L0 g_spec_l03Line))))
     (.seq
      (.region false [
       ⟨some 19, .mv, [.t 3], none⟩,
       ⟨some 2, .mv, [.t 19], none⟩])
      .ret))))

abbrev Is_spec_l03Lines (P : Program) (g_f : FuncId) (g_spec_l03Line : FuncId) : Prop := FnIs P g_f 20 [.t 2] (b_spec_l03Lines g_spec_l03Line)

abbrev C_spec_l03Lines (P : Program) (g_f : FuncId) : Prop := ∀ (a : List Nat) (hx : a.length ≤ 96), VCall P g_f [PS [0] .f32 a] (OC 0 (lnsM a (a.length / 2 + 1)))
def oc1_spec_l03Lines (as : List AV) : T AV := match as with | [.sl _ _ (.f .f32 a)] => .leaf (OC 0 (lnsM a (a.length / 2 + 1))) | _ => .fail
def oc_spec_l03Lines (a : List Nat) (d : Nat) (as : List AV) : T AV := match d with | 16 => oc1_spec_l03Line as | _ => .fail
def h_spec_l03Lines_L0 (a : List Nat) (out : LC) (k : Int) : Env := [AV.sl (Tag.par [0]) 0 (Cont.f FloatKind.f32 a), .any, .any, .sl (Tag.own 40) 0 (.c FloatKind.f32 out), .i IntKind.i64 k] ++ anys 15

theorem q_spec_l03Lines_L0 {VC : FuncId → List AV → AV → Prop} {g_spec_l03Line : FuncId} (a : List Nat) (out : LC) (k : Int) {e_ : Ex} {σ_ : Env} (ht : T.ok (fun x_ => x_ = (e_, σ_)) (
      T.ob ((2 : Int) ≠ 0)
        (T.ite (decide (k ≤ IntKind.wrap IntKind.i64 (Int.tdiv (↑(List.length a) : Int) 2)))
          (T.ob (VC g_spec_l03Line [AV.sl (Tag.par [0]) 0 (Cont.f FloatKind.f32 a), AV.i IntKind.i64 k] (AV.c FloatKind.f32 (Prod.fst (lnM a k (List.length a))) (Prod.snd (lnM a k (List.length a)))))
            (T.ob (List.length out + List.length [(Prod.fst (lnM a k (List.length a)), Prod.snd (lnM a k (List.length a)))] ≤ 4294967296)
              (T.leaf (Ex.normal, h_spec_l03Lines_L0 a (out ++ [(Prod.fst (lnM a k (List.length a)), Prod.snd (lnM a k (List.length a)))]) (IntKind.wrap IntKind.i64 (k + 1))))))
          (T.leaf (Ex.exit 0, h_spec_l03Lines_L0 a out k))))) :
    Exec VC ps_spec_l03Lines (b_spec_l03Lines_L0 g_spec_l03Line) (h_spec_l03Lines_L0 a out k) e_ σ_ := evL_of (lv := lv_spec_l03Lines_L0) (rs := [2]) (O := ⟨oc_spec_l03Lines a, fun _ _ => none⟩) (by kernel_rfl) ht

theorem q_spec_l03Lines {P : Program} {g_f : FuncId} {g_spec_l03Line : FuncId} (h_ : Is_spec_l03Lines P g_f g_spec_l03Line) (a : List Nat) (ht : T.ok (fun x_ => x_ = OC 0 (lnsM a (a.length / 2 + 1))) (
      T.ob
        (Exec (VCall P) ps_spec_l03Lines (VCode.block 0 (VCode.loop (b_spec_l03Lines_L0 g_spec_l03Line))) (h_spec_l03Lines_L0 a [] 0) Ex.normal
          (h_spec_l03Lines_L0 a (lnsM a (List.length a / 2 + 1)) ((↑(List.length a) : Int) / 2 + 1)))
        (T.leaf (AV.sl (Tag.own 0) 0 (Cont.c FloatKind.f32 (lnsM a (List.length a / 2 + 1))))))) :
    VCall P g_f [PS [0] .f32 a] (OC 0 (lnsM a (a.length / 2 + 1))) := h_.call_of ps_spec_l03Lines ⟨oc_spec_l03Lines a, fun id σ => match id with | 0 => some (lv_spec_l03Lines_L0, .leaf (.normal, h_spec_l03Lines_L0 a (lnsM a (a.length / 2 + 1)) (a.length / 2 + 1))) | _ => none⟩ (by kernel_rfl) ht

-- END spec_l03Lines
-- FN spec_LinesOf
/-- spec.LinesOf: slots 14, results [.t 2, .t 3]; calls [6:g_spec_l02Series, 9:g_spec_l03Lines, 11:g_spec_l02CFinite]; names [(a, 0), (a, 1), (out, 4)] -/
def ps_spec_LinesOf : List Nat := [0, 2, 3, 4, 7, 12]
def b_spec_LinesOf (g_spec_l02Series g_spec_l03Lines g_spec_l02CFinite : FuncId) : VCode :=
  (.seq
   (.region false [
    ⟨some 2, (.nilsl (.c .f32 [])), [], none⟩,
    ⟨some 3, .mv, [.k (.b false)], none⟩])
   (.seq
    (.seq
     (.region false [
      ⟨some 5, .mv, [.t 0], none⟩,
      ⟨some 6, (.call g_spec_l02Series), [.t 5], none⟩,
      ⟨some 7, .not, [.t 6], none⟩])
     (.cond (.t 7)
      (.seq
       (.region false [
        ⟨some 2, (.nilsl (.c .f32 [])), [], none⟩,
        ⟨some 3, .mv, [.k (.b false)], none⟩])
       .ret)
      .skip))
    (.seq
     (.region false [
      ⟨some 8, .mv, [.t 0], none⟩,
      ⟨some 9, (.call g_spec_l03Lines), [.t 8], none⟩,
      ⟨some 4, .mv, [.t 9], none⟩])
     (.seq
      (.seq
       (.region false [
        ⟨some 10, .mv, [.t 4], none⟩,
        ⟨some 11, (.call g_spec_l02CFinite), [.t 10], none⟩,
        ⟨some 12, .not, [.t 11], none⟩])
       (.cond (.t 12)
        (.seq
         (.region false [
          ⟨some 2, (.nilsl (.c .f32 [])), [], none⟩,
          ⟨some 3, .mv, [.k (.b false)], none⟩])
         .ret)
        .skip))
      (.seq
       (.region false [
        ⟨some 13, .mv, [.t 4], none⟩,
        ⟨some 2, .mv, [.t 13], none⟩,
        ⟨some 3, .mv, [.k (.b true)], none⟩])
       .ret)))))

abbrev Is_spec_LinesOf (P : Program) (g_f : FuncId) (g_spec_l02Series g_spec_l03Lines g_spec_l02CFinite : FuncId) : Prop := FnIs P g_f 14 [.t 2, .t 3] (b_spec_LinesOf g_spec_l02Series g_spec_l03Lines g_spec_l02CFinite)

abbrev C_spec_LinesOf (P : Program) (g_f : FuncId) : Prop := ∀ (a : List Nat) (hx : a.length ≤ maxLen), VCall P g_f [PS [0] .f32 a] (.tup [OC 0 (if lnsOk a = true then lnsM a (a.length / 2 + 1) else []), .b (lnsOk a)])
def oc1_spec_LinesOf (as : List AV) : T AV := match as with | [.sl _ _ (.f .f32 a)] => .leaf (.tup [OC 0 (if lnsOk a = true then lnsM a (a.length / 2 + 1) else []), .b (lnsOk a)]) | _ => .fail
def oc_spec_LinesOf (a : List Nat) (d : Nat) (as : List AV) : T AV := match d with | 6 => oc1_spec_l02Series as | 9 => oc1_spec_l03Lines as | 11 => oc1_spec_l02CFinite as | _ => .fail



theorem q_spec_LinesOf {P : Program} {g_f : FuncId} {g_spec_l02Series g_spec_l03Lines g_spec_l02CFinite : FuncId} (h_ : Is_spec_LinesOf P g_f g_spec_l02Series g_spec_l03Lines g_spec_l02CFinite) (a : List Nat) (ht : T.ok (fun x_ => x_ = .tup [OC 0 (if lnsOk a = true then lnsM a (a.length / 2 + 1) else []), .b (lnsOk a)]) (
      T.ob ((VCall P) g_spec_l02Series [AV.sl (Tag.par [0]) 0 (Cont.f FloatKind.f32 a)] (AV.b (seriesM a)))
        (T.ite (!seriesM a) (T.leaf (AV.tup [AV.sl (Tag.own 0) 0 (Cont.c FloatKind.f32 (List.take 0 (List.drop 0 []))), AV.b false]))
          (T.ob ((VCall P) g_spec_l03Lines [AV.sl (Tag.par [0]) 0 (Cont.f FloatKind.f32 a)] (AV.sl (Tag.own 0) 0 (Cont.c FloatKind.f32 (lnsM a (List.length a / 2 + 1)))))
            (T.ob ((VCall P) g_spec_l02CFinite [AV.sl (Tag.par [0]) 0 (Cont.c FloatKind.f32 (lnsM a (List.length a / 2 + 1)))] (AV.b (finAllC (lnsM a (List.length a / 2 + 1)))))
              (T.ite (!finAllC (lnsM a (List.length a / 2 + 1))) (T.leaf (AV.tup [AV.sl (Tag.own 0) 0 (Cont.c FloatKind.f32 (List.take 0 (List.drop 0 []))), AV.b false]))
                (T.leaf (AV.tup [AV.sl (Tag.own 0) 0 (Cont.c FloatKind.f32 (lnsM a (List.length a / 2 + 1))), AV.b true])))))))) :
    VCall P g_f [PS [0] .f32 a] (.tup [OC 0 (if lnsOk a = true then lnsM a (a.length / 2 + 1) else []), .b (lnsOk a)]) := h_.call_of ps_spec_LinesOf ⟨oc_spec_LinesOf a, fun _ _ => none⟩ (by kernel_rfl) ht

-- END spec_LinesOf

-- FN laws_sameComplex
/-- laws.sameComplex: slots 17, results [.t 4]; calls [9:g_laws_sameFloat, 15:g_laws_sameFloat]; names [(a, 0), (b, 1), (a, 2), (b, 3)] -/
def ps_laws_sameComplex : List Nat := [0, 1, 4]
def b_laws_sameComplex (g_laws_sameFloat : FuncId) : VCode :=
  (.seq
   (.region false [
    ⟨some 4, .mv, [.k (.b false)], none⟩])
   (.seq
    (.region false [
     ⟨some 5, .mv, [.t 0], none⟩,
     ⟨some 6, .re, [.t 5], none⟩,
     ⟨some 7, .mv, [.t 1], none⟩,
     ⟨some 8, .re, [.t 7], none⟩,
     ⟨some 9, (.call g_laws_sameFloat), [.t 6, .t 8], none⟩,
     ⟨some 10, .mv, [.t 9], none⟩,
     ⟨some 11, .mv, [.t 0], some (10, true)⟩,
     ⟨some 12, .im, [.t 11], some (10, true)⟩,
     ⟨some 13, .mv, [.t 1], some (10, true)⟩,
     ⟨some 14, .im, [.t 13], some (10, true)⟩,
     ⟨some 15, (.call g_laws_sameFloat), [.t 12, .t 14], some (10, true)⟩,
     ⟨some 16, .pick, [.t 10, .t 15, .k (.b false)], none⟩,
     ⟨some 4, .mv, [.t 16], none⟩])
    .ret))

abbrev Is_laws_sameComplex (P : Program) (g_f : FuncId) (g_laws_sameFloat : FuncId) : Prop := FnIs P g_f 17 [.t 4] (b_laws_sameComplex g_laws_sameFloat)

abbrev C_laws_sameComplex (P : Program) (g_f : FuncId) : Prop := ∀ (a : Nat) (b : Nat) (c : Nat) (d : Nat) (hy : c = a) (hz : d = b), VCall P g_f [.c .f64 a b, .c .f64 c d] (.b true)
def oc1_laws_sameComplex (as : List AV) : T AV := match as with | [.c .f64 a b, .c .f64 c d] => .leaf (.b true) | _ => .fail
def oc_laws_sameComplex (a : Nat) (b : Nat) (c : Nat) (d : Nat) (d : Nat) (as : List AV) : T AV := match d with | 9 => oc1_laws_sameFloat as | 15 => oc1_laws_sameFloat as | _ => .fail



theorem q_laws_sameComplex {P : Program} {g_f : FuncId} {g_laws_sameFloat : FuncId} (h_ : Is_laws_sameComplex P g_f g_laws_sameFloat) (a : Nat) (b : Nat) (c : Nat) (d : Nat) (ht : T.ok (fun x_ => x_ = .b true) (
      T.ob ((VCall P) g_laws_sameFloat [AV.f FloatKind.f64 a, AV.f FloatKind.f64 c] (AV.b true))
        (T.ite true (T.ob ((VCall P) g_laws_sameFloat [AV.f FloatKind.f64 b, AV.f FloatKind.f64 d] (AV.b true)) (T.leaf (AV.b true))) (T.leaf (AV.b false))))) :
    VCall P g_f [.c .f64 a b, .c .f64 c d] (.b true) := h_.call_of ps_laws_sameComplex ⟨oc_laws_sameComplex a b c d, fun _ _ => none⟩ (by kernel_rfl) ht

-- END laws_sameComplex
-- FN laws_eqComplex64S
/-- laws.eqComplex64S: slots 29, results [.t 4]; calls [27:g_laws_sameComplex]; names [(a, 0), (b, 1), (a, 2), (b, 3), (i, 5)] -/
def ps_laws_eqComplex64S : List Nat := [0, 1, 4, 5, 10, 14, 28]
def lv_laws_eqComplex64S_L0 : List Nat := [0, 1, 5]
def b_laws_eqComplex64S_L0 (g_laws_sameComplex : FuncId) : VCode :=
  (.seq
   (.seq
    (.region false [
     ⟨some 11, .mv, [.t 5], none⟩,
     ⟨some 12, .mv, [.t 0], none⟩,
     ⟨some 13, .len, [.t 12], none⟩,
     ⟨some 14, (.bin .lss), [.t 11, .t 13], none⟩])
    (.cond (.t 14)
     .skip
     (.exit 0)))
   (.seq
    (.block 1
     (.seq
      (.region true [
       ⟨some 17, .mv, [.t 0], none⟩,
       ⟨some 18, .mv, [.t 5], none⟩,
       ⟨some 19, .iaddr, [.t 17, .t 18], none⟩,
       ⟨some 20, .load, [.t 19], none⟩,
       ⟨some 21, (.convC .f64), [.t 20], none⟩,
       ⟨some 22, .mv, [.t 1], none⟩,
       ⟨some 23, .mv, [.t 5], none⟩,
       ⟨some 24, .iaddr, [.t 22, .t 23], none⟩,
       ⟨some 25, .load, [.t 24], none⟩,
       ⟨some 26, (.convC .f64), [.t 25], none⟩,
       ⟨some 27, (.call g_laws_sameComplex), [.t 21, .t 26], none⟩,
       ⟨some 28, .not, [.t 27], none⟩])
      (.cond (.t 28)
       (.seq
        (.region false [
         ⟨some 4, .mv, [.k (.b false)], none⟩])
        .ret)
       .skip)))
    (.region false [
     ⟨some 15, .mv, [.t 5], none⟩,
     ⟨some 16, (.bin .add), [.t 15, .k (.i .i64 1)], none⟩,
     ⟨some 5, .mv, [.t 16], none⟩])))

def b_laws_eqComplex64S (g_laws_sameComplex : FuncId) : VCode :=
  (.seq
   (.region false [
    ⟨some 4, .mv, [.k (.b false)], none⟩])
   (.seq
    (.seq
     (.region false [
      ⟨some 6, .mv, [.t 0], none⟩,
      ⟨some 7, .len, [.t 6], none⟩,
      ⟨some 8, .mv, [.t 1], none⟩,
      ⟨some 9, .len, [.t 8], none⟩,
      ⟨some 10, (.bin .neq), [.t 7, .t 9], none⟩])
     (.cond (.t 10)
      (.seq
       (.region false [
        ⟨some 4, .mv, [.k (.b false)], none⟩])
       .ret)
      .skip))
    (.seq
     (.seq
      (.region false [
       ⟨some 5, .mv, [.k (.i .i64 0)], none⟩])
      (.block 0 (.loop (b_laws_eqComplex64S_L0 g_laws_sameComplex))))
     (.seq
      (.region false [
       ⟨some 4, .mv, [.k (.b true)], none⟩])
      .ret))))

abbrev Is_laws_eqComplex64S (P : Program) (g_f : FuncId) (g_laws_sameComplex : FuncId) : Prop := FnIs P g_f 29 [.t 4] (b_laws_eqComplex64S g_laws_sameComplex)

abbrev C_laws_eqComplex64S (P : Program) (g_f : FuncId) : Prop := ∀ (xs : LC) (ys : LC) (he : ys = xs) (hx : xs.length ≤ 4294967296), VCall P g_f [PC [0] xs, PC [1] ys] (.b true)
def oc1_laws_eqComplex64S (as : List AV) : T AV := match as with | [.sl _ _ (.c _ xs), .sl _ _ (.c _ ys)] => .leaf (.b true) | _ => .fail
def oc_laws_eqComplex64S (xs : LC) (ys : LC) (d : Nat) (as : List AV) : T AV := match d with | 27 => oc1_laws_sameComplex as | _ => .fail
def h_laws_eqComplex64S_L0 (xs : LC) (ys : LC) (i : Int) : Env := [AV.sl (Tag.par [0]) 0 (Cont.c FloatKind.f32 xs), AV.sl (Tag.par [1]) 0 (Cont.c FloatKind.f32 ys), .any, .any, .any, .i IntKind.i64 i] ++ anys 23

theorem q_laws_eqComplex64S_L0 {VC : FuncId → List AV → AV → Prop} {g_laws_sameComplex : FuncId} (xs : LC) (ys : LC) (i : Int) {e_ : Ex} {σ_ : Env} (ht : T.ok (fun x_ => x_ = (e_, σ_)) (
      T.ite (decide (i < (↑(List.length xs) : Int)))
        (T.ob (0 ≤ i ∧ i < (↑(List.length xs) : Int))
          (T.ob (fconvOk FloatKind.f32 FloatKind.f64 (Prod.fst (List.getD xs (Int.toNat i) (0, 0))) = true ∧ fconvOk FloatKind.f32 FloatKind.f64 (Prod.snd (List.getD xs (Int.toNat i) (0, 0))) = true)
            (T.ob (0 ≤ i ∧ i < (↑(List.length ys) : Int))
              (T.ob (fconvOk FloatKind.f32 FloatKind.f64 (Prod.fst (List.getD ys (Int.toNat i) (0, 0))) = true ∧ fconvOk FloatKind.f32 FloatKind.f64 (Prod.snd (List.getD ys (Int.toNat i) (0, 0))) = true)
                (T.ob
                  (VC g_laws_sameComplex
                    [AV.c FloatKind.f64 (fconv FloatKind.f32 FloatKind.f64 (Prod.fst (List.getD xs (Int.toNat i) (0, 0)))) (fconv FloatKind.f32 FloatKind.f64 (Prod.snd (List.getD xs (Int.toNat i) (0, 0)))),
                      AV.c FloatKind.f64 (fconv FloatKind.f32 FloatKind.f64 (Prod.fst (List.getD ys (Int.toNat i) (0, 0)))) (fconv FloatKind.f32 FloatKind.f64 (Prod.snd (List.getD ys (Int.toNat i) (0, 0))))]
                    (AV.b true))
                  (T.ite false (T.leaf (Ex.ret, anys 4 ++ AV.b false :: anys 24)) (T.leaf (Ex.normal, h_laws_eqComplex64S_L0 xs ys (IntKind.wrap IntKind.i64 (i + 1))))))))))
        (T.leaf (Ex.exit 0, h_laws_eqComplex64S_L0 xs ys i)))) :
    Exec VC ps_laws_eqComplex64S (b_laws_eqComplex64S_L0 g_laws_sameComplex) (h_laws_eqComplex64S_L0 xs ys i) e_ σ_ := evL_of (lv := lv_laws_eqComplex64S_L0) (rs := [4]) (O := ⟨oc_laws_eqComplex64S xs ys, fun _ _ => none⟩) (by kernel_rfl) ht

theorem q_laws_eqComplex64S {P : Program} {g_f : FuncId} {g_laws_sameComplex : FuncId} (h_ : Is_laws_eqComplex64S P g_f g_laws_sameComplex) (xs : LC) (ys : LC) (ht : T.ok (fun x_ => x_ = .b true) (
      T.ite ((↑(List.length xs) : Int) != (↑(List.length ys) : Int)) (T.leaf (AV.b false))
        (T.ob (Exec (VCall P) ps_laws_eqComplex64S (VCode.block 0 (VCode.loop (b_laws_eqComplex64S_L0 g_laws_sameComplex))) (h_laws_eqComplex64S_L0 xs ys 0) Ex.normal (h_laws_eqComplex64S_L0 xs ys (↑(List.length xs) : Int)))
          (T.leaf (AV.b true))))) :
    VCall P g_f [PC [0] xs, PC [1] ys] (.b true) := h_.call_of ps_laws_eqComplex64S ⟨oc_laws_eqComplex64S xs ys, fun id σ => match id with | 0 => some (lv_laws_eqComplex64S_L0, .leaf (.normal, h_laws_eqComplex64S_L0 xs ys xs.length)) | _ => none⟩ (by kernel_rfl) ht

-- END laws_eqComplex64S
-- FN laws_markComplex64S
/-- laws.markComplex64S: slots 22, results [.t 4]; calls []; names [(a, 0), (k, 1), (a, 2), (k, 3), (i, 5)] -/
def ps_laws_markComplex64S : List Nat := [0, 1, 4, 5, 9]
def lv_laws_markComplex64S_L0 : List Nat := [0, 1, 5]
def b_laws_markComplex64S_L0 : VCode :=
  (.seq
   (.seq
    (.region false [
     ⟨some 6, .mv, [.t 5], none⟩,
     ⟨some 7, .mv, [.t 0], none⟩,
     ⟨some 8, .len, [.t 7], none⟩,
     ⟨some 9, (.bin .lss), [.t 6, .t 8], none⟩])
    (.cond (.t 9)
     .skip
     (.exit 0)))
   (.seq
    (.block 1
     (.seq
      (.region false [
       ⟨some 12, .mv, [.t 0], none⟩,
       ⟨some 13, .mv, [.t 5], none⟩,
       ⟨some 14, .mv, [.t 1], none⟩,
       ⟨some 15, (.convF .f64), [.t 14], none⟩,
       ⟨some 16, .cplx, [.t 15, .k (.f .f64 4607182418800017408)], none⟩,
       ⟨some 17, (.convC .f32), [.t 16], none⟩,
       ⟨some 18, .iaddr, [.t 12, .t 13], none⟩,
       ⟨none, .store, [.t 18, .t 17], none⟩])
      (.region false [
       ⟨some 19, .mv, [.t 1], none⟩,
       ⟨some 20, (.bin .add), [.t 19, .k (.i .i64 1)], none⟩,
       ⟨some 1, .mv, [.t 20], none⟩])))
    (.region false [
     ⟨some 10, .mv, [.t 5], none⟩,
     ⟨some 11, (.bin .add), [.t 10, .k (.i .i64 1)], none⟩,
     ⟨some 5, .mv, [.t 11], none⟩])))

def b_laws_markComplex64S : VCode :=
  (.seq
   (.region false [
    ⟨some 4, .mv, [.k (.i .i64 0)], none⟩])
   (.seq
    (.seq
     (.region false [
      ⟨some 5, .mv, [.k (.i .i64 0)], none⟩])
     (.block 0 (.loop b_laws_markComplex64S_L0)))
    (.seq
     (.region false [
      ⟨some 21, .mv, [.t 1], none⟩,
      ⟨some 4, .mv, [.t 21], none⟩])
     .ret)))

abbrev Is_laws_markComplex64S (P : Program) (g_f : FuncId) : Prop := FnIs P g_f 22 [.t 4] (b_laws_markComplex64S)

abbrev C_laws_markComplex64S (P : Program) (g_f : FuncId) : Prop := ∀ (xs : LC) (k : Int) (hk : 0 ≤ k ∧ k ≤ 4294967296) (hx : xs.length ≤ 4294967296), VCall P g_f [OC HI xs, .i .i64 k] ((AV.M (.i .i64 (k + xs.length)) [OC HI (marksC xs.length k), .i .i64 k]))
def oc1_laws_markComplex64S (as : List AV) : T AV := match as with | [.sl _ _ (.c _ xs), .i .i64 k] => .leaf ((AV.M (.i .i64 (k + xs.length)) [OC HI (marksC xs.length k), .i .i64 k])) | _ => .fail
def h_laws_markComplex64S_L0 (xs : LC) (k : Int) (a : LC) (k2 : Int) (i : Int) : Env := [.sl (Tag.own 800000) 0 (.c FloatKind.f32 a), .i IntKind.i64 k2, .any, .any, .any, .i IntKind.i64 i] ++ anys 16

theorem q_laws_markComplex64S_L0 {VC : FuncId → List AV → AV → Prop} (xs : LC) (k : Int) (a : LC) (k2 : Int) (i : Int) {e_ : Ex} {σ_ : Env} (ht : T.ok (fun x_ => x_ = (e_, σ_)) (
      T.ite (decide (i < (↑(List.length a) : Int)))
        (T.ob True
          (T.ob (fconvOk FloatKind.f64 FloatKind.f32 (fofi FloatKind.f64 k2) = true ∧ true = true)
            (T.ob (0 ≤ i ∧ i < (↑(List.length a) : Int))
              (T.ob (false = false)
                (T.leaf
                  (Ex.normal,
                    h_laws_markComplex64S_L0 xs k (List.set a (0 + Int.toNat i - 0) (fconv FloatKind.f64 FloatKind.f32 (fofi FloatKind.f64 k2), 1065353216)) (IntKind.wrap IntKind.i64 (k2 + 1))
                      (IntKind.wrap IntKind.i64 (i + 1))))))))
        (T.leaf (Ex.exit 0, h_laws_markComplex64S_L0 xs k a k2 i)))) :
    Exec VC ps_laws_markComplex64S (b_laws_markComplex64S_L0) (h_laws_markComplex64S_L0 xs k a k2 i) e_ σ_ := evL_of (lv := lv_laws_markComplex64S_L0) (rs := [4]) (O := ⟨fun _ _ => .fail, fun _ _ => none⟩) (by kernel_rfl) ht

theorem q_laws_markComplex64S {P : Program} {g_f : FuncId} (h_ : Is_laws_markComplex64S P g_f) (xs : LC) (k : Int) (ht : T.ok (fun x_ => x_ = (.i .i64 (k + xs.length), [OC HI (marksC xs.length k), .i .i64 k])) (
      T.ob
        (Exec (VCall P) ps_laws_markComplex64S (VCode.block 0 (VCode.loop b_laws_markComplex64S_L0)) (h_laws_markComplex64S_L0 xs k xs k 0) Ex.normal
          (h_laws_markComplex64S_L0 xs k (marksC (List.length xs) k) (k + (↑(List.length xs) : Int)) (↑(List.length xs) : Int)))
        (T.ob (List.length xs = List.length (marksC (List.length xs) k) ∧ True)
          (T.leaf (AV.i IntKind.i64 (k + (↑(List.length xs) : Int)), [AV.sl (Tag.own 800000) 0 (Cont.c FloatKind.f32 (marksC (List.length xs) k)), AV.i IntKind.i64 k]))))) :
    VCall P g_f [OC HI xs, .i .i64 k] (AV.M (.i .i64 (k + xs.length)) [OC HI (marksC xs.length k), .i .i64 k]) := h_.callM_of ps_laws_markComplex64S [0] ⟨fun _ _ => .fail, fun id σ => match id with | 0 => some (lv_laws_markComplex64S_L0, .leaf (.normal, h_laws_markComplex64S_L0 xs k (marksC xs.length k) (k + xs.length) xs.length)) | _ => none⟩ (by kernel_rfl) ht

-- END laws_markComplex64S
-- FN laws_heldComplex64S
/-- laws.heldComplex64S: slots 24, results [.t 4]; calls []; names [(a, 0), (k, 1), (a, 2), (k, 3), (i, 5)] -/
def ps_laws_heldComplex64S : List Nat := [0, 1, 4, 5, 9, 20]
def lv_laws_heldComplex64S_L0 : List Nat := [0, 1, 5]
def b_laws_heldComplex64S_L0 : VCode :=
  (.seq
   (.seq
    (.region false [
     ⟨some 6, .mv, [.t 5], none⟩,
     ⟨some 7, .mv, [.t 0], none⟩,
     ⟨some 8, .len, [.t 7], none⟩,
     ⟨some 9, (.bin .lss), [.t 6, .t 8], none⟩])
    (.cond (.t 9)
     .skip
     (.exit 0)))
   (.seq
    (.block 1
     (.seq
      (.seq
       (.region false [
        ⟨some 12, .mv, [.t 0], none⟩,
        ⟨some 13, .mv, [.t 5], none⟩,
        ⟨some 14, .iaddr, [.t 12, .t 13], none⟩,
        ⟨some 15, .load, [.t 14], none⟩,
        ⟨some 16, .mv, [.t 1], none⟩,
        ⟨some 17, (.convF .f64), [.t 16], none⟩,
        ⟨some 18, .cplx, [.t 17, .k (.f .f64 4607182418800017408)], none⟩,
        ⟨some 19, (.convC .f32), [.t 18], none⟩,
        ⟨some 20, (.bin .neq), [.t 15, .t 19], none⟩])
       (.cond (.t 20)
        (.seq
         (.region false [
          ⟨some 4, .mv, [.k (.i .i64 (-1))], none⟩])
         .ret)
        .skip))
      (.region false [
       ⟨some 21, .mv, [.t 1], none⟩,
       ⟨some 22, (.bin .add), [.t 21, .k (.i .i64 1)], none⟩,
       ⟨some 1, .mv, [.t 22], none⟩])))
    (.region false [
     ⟨some 10, .mv, [.t 5], none⟩,
     ⟨some 11, (.bin .add), [.t 10, .k (.i .i64 1)], none⟩,
     ⟨some 5, .mv, [.t 11], none⟩])))

def b_laws_heldComplex64S : VCode :=
  (.seq
   (.region false [
    ⟨some 4, .mv, [.k (.i .i64 0)], none⟩])
   (.seq
    (.seq
     (.region false [
      ⟨some 5, .mv, [.k (.i .i64 0)], none⟩])
     (.block 0 (.loop b_laws_heldComplex64S_L0)))
    (.seq
     (.region false [
      ⟨some 23, .mv, [.t 1], none⟩,
      ⟨some 4, .mv, [.t 23], none⟩])
     .ret)))

abbrev Is_laws_heldComplex64S (P : Program) (g_f : FuncId) : Prop := FnIs P g_f 24 [.t 4] (b_laws_heldComplex64S)

abbrev C_laws_heldComplex64S (P : Program) (g_f : FuncId) : Prop := ∀ (xs : LC) (k : Int) (n : Nat) (he : xs = marksC n k) (hk : 0 ≤ k ∧ k ≤ 4294967296) (hn : n ≤ 4294967296), VCall P g_f [PC [0] xs, .i .i64 k] (.i .i64 (k + xs.length))
def oc1_laws_heldComplex64S (as : List AV) : T AV := match as with | [.sl _ _ (.c _ xs), .i .i64 k] => .leaf (.i .i64 (k + xs.length)) | _ => .fail
def h_laws_heldComplex64S_L0 (xs : LC) (k : Int) (n : Nat) (k2 : Int) (i : Int) : Env := [AV.sl (Tag.par [0]) 0 (Cont.c FloatKind.f32 xs), .i IntKind.i64 k2, .any, .any, .any, .i IntKind.i64 i] ++ anys 18

theorem q_laws_heldComplex64S_L0 {VC : FuncId → List AV → AV → Prop} (xs : LC) (k : Int) (n : Nat) (k2 : Int) (i : Int) {e_ : Ex} {σ_ : Env} (ht : T.ok (fun x_ => x_ = (e_, σ_)) (
      T.ite (decide (i < (↑(List.length xs) : Int)))
        (T.ob (0 ≤ i ∧ i < (↑(List.length xs) : Int))
          (T.ob True
            (T.ob (fconvOk FloatKind.f64 FloatKind.f32 (fofi FloatKind.f64 k2) = true ∧ true = true)
              (T.ite
                (!(feq FloatKind.f32 (Prod.fst (List.getD xs (Int.toNat i) (0, 0))) (fconv FloatKind.f64 FloatKind.f32 (fofi FloatKind.f64 k2)) && feq FloatKind.f32 (Prod.snd (List.getD xs (Int.toNat i) (0, 0))) 1065353216))
                (T.leaf (Ex.ret, anys 4 ++ AV.i IntKind.i64 (-1) :: anys 19)) (T.leaf (Ex.normal, h_laws_heldComplex64S_L0 xs k n (IntKind.wrap IntKind.i64 (k2 + 1)) (IntKind.wrap IntKind.i64 (i + 1))))))))
        (T.leaf (Ex.exit 0, h_laws_heldComplex64S_L0 xs k n k2 i)))) :
    Exec VC ps_laws_heldComplex64S (b_laws_heldComplex64S_L0) (h_laws_heldComplex64S_L0 xs k n k2 i) e_ σ_ := evL_of (lv := lv_laws_heldComplex64S_L0) (rs := [4]) (O := ⟨fun _ _ => .fail, fun _ _ => none⟩) (by kernel_rfl) ht

theorem q_laws_heldComplex64S {P : Program} {g_f : FuncId} (h_ : Is_laws_heldComplex64S P g_f) (xs : LC) (k : Int) (n : Nat) (ht : T.ok (fun x_ => x_ = .i .i64 (k + xs.length)) (
      T.ob
        (Exec (VCall P) ps_laws_heldComplex64S (VCode.block 0 (VCode.loop b_laws_heldComplex64S_L0)) (h_laws_heldComplex64S_L0 xs k n k 0) Ex.normal
          (h_laws_heldComplex64S_L0 xs k n (k + (↑(List.length xs) : Int)) (↑(List.length xs) : Int)))
        (T.leaf (AV.i IntKind.i64 (k + (↑(List.length xs) : Int)))))) :
    VCall P g_f [PC [0] xs, .i .i64 k] (.i .i64 (k + xs.length)) := h_.call_of ps_laws_heldComplex64S ⟨fun _ _ => .fail, fun id σ => match id with | 0 => some (lv_laws_heldComplex64S_L0, .leaf (.normal, h_laws_heldComplex64S_L0 xs k n (k + xs.length) xs.length)) | _ => none⟩ (by kernel_rfl) ht

-- END laws_heldComplex64S

theorem k_impl_plus {P : Program} {f : FuncId} (h : Is_impl_plus P f) : C_impl_plus P f := by
  intro a b c d
  refine q_impl_plus h a b c d ?_
  repeat' (first | with_reducible refine T.ok_ob ?_ (fun _ => ?_) | with_reducible refine T.ok_ite (fun _ => ?_) (fun _ => ?_) | with_reducible refine T.ok_leaf ?_)
  all_goals first | with_reducible rfl | with_reducible assumption | contradiction | exact fconvOk_32_64 _ | assumption | exact rfl | (simp_all []; done) | (simp_all [T.ok]; omega)

theorem k_impl_ScaleComplex {P : Program} {f : FuncId} (h : Is_impl_ScaleComplex P f) : C_impl_ScaleComplex P f := by
  intro a b x
  refine q_impl_ScaleComplex h a b x ?_
  repeat' (first | with_reducible refine T.ok_ob ?_ (fun _ => ?_) | with_reducible refine T.ok_ite (fun _ => ?_) (fun _ => ?_) | with_reducible refine T.ok_leaf ?_)
  all_goals first | with_reducible rfl | with_reducible assumption | contradiction | exact fconvOk_32_64 _ | assumption | exact rfl | (simp_all []; done) | (simp_all [T.ok]; omega)

theorem k_spec_l01Scale {P : Program} {f : FuncId} (h : Is_spec_l01Scale P f) : C_spec_l01Scale P f := by
  intro a b x
  refine q_spec_l01Scale h a b x ?_
  repeat' (first | with_reducible refine T.ok_ob ?_ (fun _ => ?_) | with_reducible refine T.ok_ite (fun _ => ?_) (fun _ => ?_) | with_reducible refine T.ok_leaf ?_)
  all_goals first | with_reducible rfl | with_reducible assumption | contradiction | exact fconvOk_32_64 _ | assumption | exact rfl | (simp_all []; done) | (simp_all [T.ok]; omega)

theorem k_impl_IsFiniteComplex {P : Program} {f g1 : FuncId} (h : Is_impl_IsFiniteComplex P f g1) (c1 : C_impl_IsFinite P g1) : C_impl_IsFiniteComplex P f := by
  intro a b
  refine q_impl_IsFiniteComplex h a b ?_
  cases ha : finM a
  · repeat' (first | with_reducible refine T.ok_ob ?_ (fun _ => ?_) | with_reducible refine T.ok_ite (fun _ => ?_) (fun _ => ?_) | with_reducible refine T.ok_leaf ?_)
    all_goals first | exact ha ▸ c1 _ | contradiction | rfl
  · repeat' (first | with_reducible refine T.ok_ob ?_ (fun _ => ?_) | with_reducible refine T.ok_ite (fun _ => ?_) (fun _ => ?_) | with_reducible refine T.ok_leaf ?_)
    all_goals first | exact ha ▸ c1 _ | exact c1 _ | contradiction | rfl
theorem k_spec_l01CFinite {P : Program} {f g1 : FuncId} (h : Is_spec_l01CFinite P f g1) (c1 : C_spec_l01Finite P g1) : C_spec_l01CFinite P f := by
  intro a b
  refine q_spec_l01CFinite h a b ?_
  cases ha : finM a
  · repeat' (first | with_reducible refine T.ok_ob ?_ (fun _ => ?_) | with_reducible refine T.ok_ite (fun _ => ?_) (fun _ => ?_) | with_reducible refine T.ok_leaf ?_)
    all_goals first | exact ha ▸ c1 _ | contradiction | rfl
  · repeat' (first | with_reducible refine T.ok_ob ?_ (fun _ => ?_) | with_reducible refine T.ok_ite (fun _ => ?_) (fun _ => ?_) | with_reducible refine T.ok_leaf ?_)
    all_goals first | exact ha ▸ c1 _ | exact c1 _ | contradiction | rfl
theorem k_slices_IndexFunc___complex64_complex64_ {P : Program} {f : FuncId} (h : Is_slices_IndexFunc___complex64_complex64_ P f) : C_slices_IndexFunc___complex64_complex64_ P f := by
  intro xs F p hF hx
  have hm := ml64 hx
  have step : ∀ i, i < xs.length → p (xs.getD i (0, 0)) = false → Exec (VCall P) ps_slices_IndexFunc___complex64_complex64_ b_slices_IndexFunc___complex64_complex64__L0 (h_slices_IndexFunc___complex64_complex64__L0 xs F p i) .normal (h_slices_IndexFunc___complex64_complex64__L0 xs F p (i + 1 : Nat)) := by
    intro i hi hp
    refine q_slices_IndexFunc___complex64_complex64__L0 _ _ _ _ ⟨fun _ => ⟨by omega, fun _ => ⟨hF _ _, fun _ => ⟨fun h => ?_, fun _ => ?_⟩⟩⟩, fun h => absurd (of_decide_eq_false h) (by omega)⟩
    · rw [getD_nat] at h
      have h : p (xs.getD i (0, 0)) = true := h
      rw [hp] at h; cases h
    · show _ = _
      rw [wrap64_id (by omega) (by omega)]; rfl
  refine q_slices_IndexFunc___complex64_complex64_ h xs F p ⟨fun hlt => ⟨?_, fun _ => ?_⟩, fun hge => ⟨?_, fun _ => ?_⟩⟩
  · have hlt := of_decide_eq_true hlt
    refine for_up (e := .ret) (xs.findIdx p) (fun i => h_slices_IndexFunc___complex64_complex64__L0 xs F p i) rfl (fun i hi => step i (by omega) (findIdx_not (0, 0) hi (by omega))) ?_
    refine q_slices_IndexFunc___complex64_complex64__L0 _ _ _ _ ⟨fun _ => ⟨by omega, fun _ => ⟨hF _ _, fun _ => ⟨fun _ => rfl, fun h => ?_⟩⟩⟩, fun h => absurd (of_decide_eq_false h) (by omega)⟩
    rw [getD_nat] at h
    have h : p (xs.getD (xs.findIdx p) (0, 0)) = false := h
    rw [findIdx_is (0, 0) hlt] at h; cases h
  · have hlt := of_decide_eq_true hlt
    show _ = _
    simp [idxM, hlt]
  · have hge := of_decide_eq_false hge
    have he := findIdx_eq hge
    refine for_up (e := .exit 0) xs.length (fun i => h_slices_IndexFunc___complex64_complex64__L0 xs F p i) rfl (fun i hi => step i hi (findIdx_not (0, 0) (by omega) hi)) ?_
    exact q_slices_IndexFunc___complex64_complex64__L0 _ _ _ _ ⟨fun h => absurd h (by simp), fun _ => rfl⟩
  · have hge := of_decide_eq_false hge
    show _ = _
    simp [idxM, hge]
theorem k_slices_ContainsFunc___complex64_complex64_ {P : Program} {f g : FuncId} (h : Is_slices_ContainsFunc___complex64_complex64_ P f g) (hg : C_slices_IndexFunc___complex64_complex64_ P g) : C_slices_ContainsFunc___complex64_complex64_ P f := by
  intro xs F p hF hx
  refine q_slices_ContainsFunc___complex64_complex64_ h xs F p ⟨hg xs F p hF hx, fun _ => ?_⟩
  show _ = _
  rw [idx_any]
theorem k_impl_areLines_1 {P : Program} {f g : FuncId} (h : Is_impl_areLines_1 P f g) (hg : C_impl_IsFiniteComplex P g) : C_impl_areLines_1 P f := fun a b => q_impl_areLines_1 h a b ⟨hg a b, fun _ => rfl⟩
theorem k_impl_areLines {P : Program} {f g F : FuncId} (h : Is_impl_areLines P f g F) (hg : C_slices_ContainsFunc___complex64_complex64_ P g) (hF : C_impl_areLines_1 P F) : C_impl_areLines P f := by
  intro xs hx
  refine q_impl_areLines h xs ⟨hg xs F _ (fun a b => hF a b) hx, fun _ => ?_⟩
  show _ = _
  congr 1
  unfold finAllC
  rw [← List.not_all_eq_any_not, Bool.not_not]
theorem finAllC_findIdx (xs : LC) : finAllC xs = !decide (xs.findIdx (fun x => !finC x) < xs.length) := by
  rw [← any_findIdx, ← List.not_all_eq_any_not, Bool.not_not]; rfl
theorem k_spec_l02CFinite {P : Program} {f g : FuncId} (h : Is_spec_l02CFinite P f g) (hg : C_spec_l01CFinite P g) : C_spec_l02CFinite P f := by
  intro xs hx
  have hm := ml64 hx
  have step : ∀ i, i < xs.length → (!finC (xs.getD i (0, 0))) = false → Exec (VCall P) ps_spec_l02CFinite (b_spec_l02CFinite_L0 g) (h_spec_l02CFinite_L0 xs i) .normal (h_spec_l02CFinite_L0 xs (i + 1 : Nat)) := by
    intro i hi hp
    have hp : finC (xs.getD i (0, 0)) = true := by simpa using hp
    refine q_spec_l02CFinite_L0 _ _ ⟨fun _ => ⟨by omega, fun _ => ⟨hg _ _, fun _ => ⟨fun h => ?_, fun _ => ?_⟩⟩⟩, fun h => absurd (of_decide_eq_false h) (by omega)⟩
    · rw [getD_nat] at h
      have h : (!finC (xs.getD i (0, 0))) = true := h
      rw [hp] at h; cases h
    · show _ = _
      rw [wrap64_id (by omega) (by omega)]; rfl
  refine q_spec_l02CFinite h xs ⟨fun hlt => ⟨?_, fun _ => ?_⟩, fun hge => ⟨?_, fun _ => ?_⟩⟩
  · have hlt := of_decide_eq_true hlt
    refine for_up (e := .ret) _ (fun i => h_spec_l02CFinite_L0 xs i) rfl (fun i hi => step i (by omega) (findIdx_not (p := fun x => !finC x) (0, 0) hi (by omega))) ?_
    refine q_spec_l02CFinite_L0 _ _ ⟨fun _ => ⟨by omega, fun _ => ⟨hg _ _, fun _ => ⟨fun _ => rfl, fun h => ?_⟩⟩⟩, fun h => absurd (of_decide_eq_false h) (by omega)⟩
    have h3 := findIdx_is (p := fun x => !finC x) (0, 0) hlt
    rw [getD_nat] at h
    have h : (!finC (xs.getD (xs.findIdx fun x => !finC x) (0, 0))) = false := h
    rw [h3] at h; cases h
  · show _ = _
    rw [finAllC_findIdx, hlt]; rfl
  · have hge := of_decide_eq_false hge
    have he := findIdx_eq hge
    refine for_up (e := .exit 0) xs.length (fun i => h_spec_l02CFinite_L0 xs i) rfl (fun i hi => step i hi (findIdx_not (p := fun x => !finC x) (0, 0) (by omega) hi)) ?_
    exact q_spec_l02CFinite_L0 _ _ ⟨fun h => absurd h (by simp), fun _ => rfl⟩
  · show _ = _
    rw [finAllC_findIdx, hge]; rfl
theorem mul_small {k : Int} {i : Nat} (h1 : 0 ≤ k) (h2 : k ≤ 96) (h : i ≤ 96) : 0 ≤ k * (i : Int) ∧ k * (i : Int) ≤ 9216 := by
  have a := Int.mul_le_mul_of_nonneg_left (show (i : Int) ≤ 96 by omega) h1
  have b := Int.mul_nonneg h1 (show (0 : Int) ≤ (i : Int) by omega)
  omega
theorem k_impl_lineOf {P : Program} {f g1 g2 g3 : FuncId} (h : Is_impl_lineOf P f g1 g2 g3) (c1 : C_impl_PhasorOf P g1) (c2 : C_impl_ScaleComplex P g2) (c3 : C_impl_plus P g3) : C_impl_lineOf P f := by
  intro a k hx hk
  refine q_impl_lineOf h a k ⟨?_, fun _ => rfl⟩
  refine for_up (e := .exit 0) a.length (fun i => h_impl_lineOf_L0 a k (lnM a k i).1 (lnM a k i).2 i) rfl (fun i hi => ?_) ?_
  · refine q_impl_lineOf_L0 _ _ _ _ _ ?_
    have hm := mul_small (i := i) hk.1 hk.2 (by omega)
    rw [wrap64_id (n := k * (i : Int)) (by omega) (by omega)]
    rw [show fneg .f64 (fdiv .f64 (fofi .f64 (k * (i : Int))) (fofi .f64 (a.length : Int))) = lnQ a.length k i from rfl]
    have d1 := c1 (lnQ a.length k i)
    have d2 := c2 (phM (lnQ a.length k i)).1 (phM (lnQ a.length k i)).2 (a.getD i 0)
    have d3 := c3 (lnM a k i).1 (lnM a k i).2 (fmul .f32 (phM (lnQ a.length k i)).1 (a.getD i 0)) (fmul .f32 (phM (lnQ a.length k i)).2 (a.getD i 0))
    repeat' (first | with_reducible refine T.ok_ob ?_ (fun _ => ?_) | with_reducible refine T.ok_ite (fun _ => ?_) (fun _ => ?_) | with_reducible refine T.ok_leaf ?_)
    all_goals (try simp only [decide_eq_true_eq, decide_eq_false_iff_not, Bool.not_eq_true', Bool.not_eq_false', Bool.not_eq_eq_eq_not, Bool.not_true, Bool.not_false, Int.toNat_natCast, tab_len, List.length_append, List.length_singleton, List.length_cons, List.length_nil, List.length_drop, List.length_take, getD_drop', getD_nat, reduceCtorEq] at *)
    all_goals (try simp (disch := omega) only [wrap64_id] at *)
    all_goals first | omega | (exfalso; omega) | exact True.intro | skip
    all_goals first | exact d1 | exact d2 | exact d3 | rfl
  · refine q_impl_lineOf_L0 _ _ _ _ _ ?_
    repeat' (first | with_reducible refine T.ok_ob ?_ (fun _ => ?_) | with_reducible refine T.ok_ite (fun _ => ?_) (fun _ => ?_) | with_reducible refine T.ok_leaf ?_)
    all_goals (try simp only [decide_eq_true_eq, decide_eq_false_iff_not, Bool.not_eq_true', Bool.not_eq_false', Bool.not_eq_eq_eq_not, Bool.not_true, Bool.not_false, Int.toNat_natCast, tab_len, List.length_append, List.length_singleton, List.length_cons, List.length_nil, List.length_drop, List.length_take, getD_drop', getD_nat, reduceCtorEq] at *)
    all_goals (try simp (disch := omega) only [wrap64_id] at *)
    all_goals first | omega | (exfalso; omega) | exact True.intro | skip
    all_goals rfl
theorem k_spec_l03Line {P : Program} {f g1 g2 : FuncId} (h : Is_spec_l03Line P f g1 g2) (c1 : C_spec_l01Phasor P g1) (c2 : C_spec_l01Scale P g2) : C_spec_l03Line P f := by
  intro a k hx hk
  refine q_spec_l03Line h a k ⟨?_, fun _ => rfl⟩
  refine for_up (e := .exit 0) a.length (fun i => h_spec_l03Line_L0 a k (lnM a k i).1 (lnM a k i).2 i) rfl (fun i hi => ?_) ?_
  · refine q_spec_l03Line_L0 _ _ _ _ _ ?_
    have hm := mul_small (i := i) hk.1 hk.2 (by omega)
    rw [wrap64_id (n := k * (i : Int)) (by omega) (by omega)]
    rw [show fneg .f64 (fdiv .f64 (fofi .f64 (k * (i : Int))) (fofi .f64 (a.length : Int))) = lnQ a.length k i from rfl]
    have d1 := c1 (lnQ a.length k i)
    have d2 := c2 (phM (lnQ a.length k i)).1 (phM (lnQ a.length k i)).2 (a.getD i 0)
    repeat' (first | with_reducible refine T.ok_ob ?_ (fun _ => ?_) | with_reducible refine T.ok_ite (fun _ => ?_) (fun _ => ?_) | with_reducible refine T.ok_leaf ?_)
    all_goals (try simp only [decide_eq_true_eq, decide_eq_false_iff_not, Bool.not_eq_true', Bool.not_eq_false', Bool.not_eq_eq_eq_not, Bool.not_true, Bool.not_false, Int.toNat_natCast, tab_len, List.length_append, List.length_singleton, List.length_cons, List.length_nil, List.length_drop, List.length_take, getD_drop', getD_nat, reduceCtorEq] at *)
    all_goals (try simp (disch := omega) only [wrap64_id] at *)
    all_goals first | omega | (exfalso; omega) | exact True.intro | skip
    all_goals first | exact d1 | exact d2 | rfl
  · refine q_spec_l03Line_L0 _ _ _ _ _ ?_
    repeat' (first | with_reducible refine T.ok_ob ?_ (fun _ => ?_) | with_reducible refine T.ok_ite (fun _ => ?_) (fun _ => ?_) | with_reducible refine T.ok_leaf ?_)
    all_goals (try simp only [decide_eq_true_eq, decide_eq_false_iff_not, Bool.not_eq_true', Bool.not_eq_false', Bool.not_eq_eq_eq_not, Bool.not_true, Bool.not_false, Int.toNat_natCast, tab_len, List.length_append, List.length_singleton, List.length_cons, List.length_nil, List.length_drop, List.length_take, getD_drop', getD_nat, reduceCtorEq] at *)
    all_goals (try simp (disch := omega) only [wrap64_id] at *)
    all_goals first | omega | (exfalso; omega) | exact True.intro | skip
    all_goals rfl
theorem lns_len (a : List Nat) (m : Nat) : (lnsM a m).length = m := tab_len _ _
theorem lns_succ (a : List Nat) (m : Nat) : lnsM a (m + 1) = lnsM a m ++ [lnM a m a.length] := tab_succ _ _
theorem k_impl_LinesOf {P : Program} {f g1 g2 g3 : FuncId} (h : Is_impl_LinesOf P f g1 g2 g3) (c1 : C_impl_IsSeries P g1) (c2 : C_impl_lineOf P g2) (c3 : C_impl_areLines P g3) : C_impl_LinesOf P f := by
  intro a hx
  refine q_impl_LinesOf h a ?_
  cases hs : seriesM a
  · repeat' (first | with_reducible refine T.ok_ob ?_ (fun _ => ?_) | with_reducible refine T.ok_ite (fun _ => ?_) (fun _ => ?_) | with_reducible refine T.ok_leaf ?_)
    all_goals first | exact hs ▸ c1 _ hx | contradiction | (simp [lnsOk, hs]; done)
  have hl := series_len hs
  have c3 := c3 (lnsM a (a.length / 2 + 1)) (by rw [lns_len, maxLen_eq]; omega)
  cases hf : finAllC (lnsM a (a.length / 2 + 1))
  · repeat' (first | with_reducible refine T.ok_ob ?_ (fun _ => ?_) | with_reducible refine T.ok_ite (fun _ => ?_) (fun _ => ?_) | with_reducible refine T.ok_leaf ?_)
    all_goals first | exact hs ▸ c1 _ hx | exact hf ▸ c3 | contradiction | omega | (simp [lnsOk, hs, hf]; done) | skip
    refine for_up (e := .exit 0) (a.length / 2 + 1) (fun i => h_impl_LinesOf_L0 a (lnsM a i) i) rfl (fun i hi => ?_) ?_
    · refine q_impl_LinesOf_L0 _ _ _ ?_
      have d2 := c2 a i hl.2 (by omega)
      have e1 : IntKind.wrap .i64 (IntKind.wrap .i64 (Int.tdiv (a.length : Int) 2) + 1) = ((a.length / 2 + 1 : Nat) : Int) := by
        rw [Int.tdiv_eq_ediv_of_nonneg (by omega), wrap64_id (n := (a.length : Int) / 2) (by omega) (by omega), wrap64_id (by omega) (by omega)]; omega
      have tl := lns_len a i
      rw [e1, lns_succ]
      repeat' (first | with_reducible refine T.ok_ob ?_ (fun _ => ?_) | with_reducible refine T.ok_ite (fun _ => ?_) (fun _ => ?_) | with_reducible refine T.ok_leaf ?_)
      all_goals (try simp only [decide_eq_true_eq, decide_eq_false_iff_not, Bool.not_eq_true', Bool.not_eq_false', Bool.not_eq_eq_eq_not, Bool.not_true, Bool.not_false, Int.toNat_natCast, tab_len, List.length_append, List.length_singleton, List.length_cons, List.length_nil, List.length_drop, List.length_take, getD_drop', getD_nat, reduceCtorEq] at *)
      all_goals (try simp (disch := omega) only [wrap64_id] at *)
      all_goals first | omega | (exfalso; omega) | exact True.intro | skip
      all_goals first | exact d2 | rfl
    · refine q_impl_LinesOf_L0 _ _ _ ?_
      have e1 : IntKind.wrap .i64 (IntKind.wrap .i64 (Int.tdiv (a.length : Int) 2) + 1) = ((a.length / 2 + 1 : Nat) : Int) := by
        rw [Int.tdiv_eq_ediv_of_nonneg (by omega), wrap64_id (n := (a.length : Int) / 2) (by omega) (by omega), wrap64_id (by omega) (by omega)]; omega
      rw [e1]
      repeat' (first | with_reducible refine T.ok_ob ?_ (fun _ => ?_) | with_reducible refine T.ok_ite (fun _ => ?_) (fun _ => ?_) | with_reducible refine T.ok_leaf ?_)
      all_goals (try simp only [decide_eq_true_eq, decide_eq_false_iff_not, Bool.not_eq_true', Bool.not_eq_false', Bool.not_eq_eq_eq_not, Bool.not_true, Bool.not_false, Int.toNat_natCast, tab_len, List.length_append, List.length_singleton, List.length_cons, List.length_nil, List.length_drop, List.length_take, getD_drop', getD_nat, reduceCtorEq] at *)
      all_goals (try simp (disch := omega) only [wrap64_id] at *)
      all_goals first | omega | (exfalso; omega) | exact True.intro | skip
      all_goals rfl
  · repeat' (first | with_reducible refine T.ok_ob ?_ (fun _ => ?_) | with_reducible refine T.ok_ite (fun _ => ?_) (fun _ => ?_) | with_reducible refine T.ok_leaf ?_)
    all_goals first | exact hs ▸ c1 _ hx | exact hf ▸ c3 | contradiction | omega | (simp [lnsOk, hs, hf]; done) | skip
    refine for_up (e := .exit 0) (a.length / 2 + 1) (fun i => h_impl_LinesOf_L0 a (lnsM a i) i) rfl (fun i hi => ?_) ?_
    · refine q_impl_LinesOf_L0 _ _ _ ?_
      have d2 := c2 a i hl.2 (by omega)
      have e1 : IntKind.wrap .i64 (IntKind.wrap .i64 (Int.tdiv (a.length : Int) 2) + 1) = ((a.length / 2 + 1 : Nat) : Int) := by
        rw [Int.tdiv_eq_ediv_of_nonneg (by omega), wrap64_id (n := (a.length : Int) / 2) (by omega) (by omega), wrap64_id (by omega) (by omega)]; omega
      have tl := lns_len a i
      rw [e1, lns_succ]
      repeat' (first | with_reducible refine T.ok_ob ?_ (fun _ => ?_) | with_reducible refine T.ok_ite (fun _ => ?_) (fun _ => ?_) | with_reducible refine T.ok_leaf ?_)
      all_goals (try simp only [decide_eq_true_eq, decide_eq_false_iff_not, Bool.not_eq_true', Bool.not_eq_false', Bool.not_eq_eq_eq_not, Bool.not_true, Bool.not_false, Int.toNat_natCast, tab_len, List.length_append, List.length_singleton, List.length_cons, List.length_nil, List.length_drop, List.length_take, getD_drop', getD_nat, reduceCtorEq] at *)
      all_goals (try simp (disch := omega) only [wrap64_id] at *)
      all_goals first | omega | (exfalso; omega) | exact True.intro | skip
      all_goals first | exact d2 | rfl
    · refine q_impl_LinesOf_L0 _ _ _ ?_
      have e1 : IntKind.wrap .i64 (IntKind.wrap .i64 (Int.tdiv (a.length : Int) 2) + 1) = ((a.length / 2 + 1 : Nat) : Int) := by
        rw [Int.tdiv_eq_ediv_of_nonneg (by omega), wrap64_id (n := (a.length : Int) / 2) (by omega) (by omega), wrap64_id (by omega) (by omega)]; omega
      rw [e1]
      repeat' (first | with_reducible refine T.ok_ob ?_ (fun _ => ?_) | with_reducible refine T.ok_ite (fun _ => ?_) (fun _ => ?_) | with_reducible refine T.ok_leaf ?_)
      all_goals (try simp only [decide_eq_true_eq, decide_eq_false_iff_not, Bool.not_eq_true', Bool.not_eq_false', Bool.not_eq_eq_eq_not, Bool.not_true, Bool.not_false, Int.toNat_natCast, tab_len, List.length_append, List.length_singleton, List.length_cons, List.length_nil, List.length_drop, List.length_take, getD_drop', getD_nat, reduceCtorEq] at *)
      all_goals (try simp (disch := omega) only [wrap64_id] at *)
      all_goals first | omega | (exfalso; omega) | exact True.intro | skip
      all_goals rfl
theorem k_spec_l03Lines {P : Program} {f g1 : FuncId} (h : Is_spec_l03Lines P f g1) (c1 : C_spec_l03Line P g1) : C_spec_l03Lines P f := by
  intro a hx
  refine q_spec_l03Lines h a ⟨?_, fun _ => rfl⟩
  have e1 : IntKind.wrap .i64 (Int.tdiv (a.length : Int) 2) = ((a.length / 2 : Nat) : Int) := by
    rw [Int.tdiv_eq_ediv_of_nonneg (by omega), wrap64_id (by omega) (by omega)]; omega
  refine for_up (e := .exit 0) (a.length / 2 + 1) (fun i => h_spec_l03Lines_L0 a (lnsM a i) i) rfl (fun i hi => ?_) ?_
  · refine q_spec_l03Lines_L0 _ _ _ ?_
    have d2 := c1 a i hx (by omega)
    have tl := lns_len a i
    rw [e1, lns_succ]
    repeat' (first | with_reducible refine T.ok_ob ?_ (fun _ => ?_) | with_reducible refine T.ok_ite (fun _ => ?_) (fun _ => ?_) | with_reducible refine T.ok_leaf ?_)
    all_goals (try simp only [decide_eq_true_eq, decide_eq_false_iff_not, Bool.not_eq_true', Bool.not_eq_false', Bool.not_eq_eq_eq_not, Bool.not_true, Bool.not_false, Int.toNat_natCast, tab_len, List.length_append, List.length_singleton, List.length_cons, List.length_nil, List.length_drop, List.length_take, getD_drop', getD_nat, reduceCtorEq] at *)
    all_goals (try simp (disch := omega) only [wrap64_id] at *)
    all_goals first | omega | (exfalso; omega) | exact True.intro | skip
    all_goals first | exact d2 | rfl
  · refine q_spec_l03Lines_L0 _ _ _ ?_
    rw [e1]
    repeat' (first | with_reducible refine T.ok_ob ?_ (fun _ => ?_) | with_reducible refine T.ok_ite (fun _ => ?_) (fun _ => ?_) | with_reducible refine T.ok_leaf ?_)
    all_goals (try simp only [decide_eq_true_eq, decide_eq_false_iff_not, Bool.not_eq_true', Bool.not_eq_false', Bool.not_eq_eq_eq_not, Bool.not_true, Bool.not_false, Int.toNat_natCast, tab_len, List.length_append, List.length_singleton, List.length_cons, List.length_nil, List.length_drop, List.length_take, getD_drop', getD_nat, reduceCtorEq] at *)
    all_goals (try simp (disch := omega) only [wrap64_id] at *)
    all_goals first | omega | (exfalso; omega) | exact True.intro | skip
    all_goals rfl
theorem k_spec_LinesOf {P : Program} {f g1 g2 g3 : FuncId} (h : Is_spec_LinesOf P f g1 g2 g3) (c1 : C_spec_l02Series P g1) (c2 : C_spec_l03Lines P g2) (c3 : C_spec_l02CFinite P g3) : C_spec_LinesOf P f := by
  intro a hx
  refine q_spec_LinesOf h a ?_
  cases hs : seriesM a
  · repeat' (first | with_reducible refine T.ok_ob ?_ (fun _ => ?_) | with_reducible refine T.ok_ite (fun _ => ?_) (fun _ => ?_) | with_reducible refine T.ok_leaf ?_)
    all_goals first | exact hs ▸ c1 _ hx | contradiction | (simp [lnsOk, hs]; done)
  have hl := series_len hs
  have c2 := c2 a hl.2
  have c3 := c3 (lnsM a (a.length / 2 + 1)) (by rw [lns_len, maxLen_eq]; omega)
  cases hf : finAllC (lnsM a (a.length / 2 + 1))
  · repeat' (first | with_reducible refine T.ok_ob ?_ (fun _ => ?_) | with_reducible refine T.ok_ite (fun _ => ?_) (fun _ => ?_) | with_reducible refine T.ok_leaf ?_)
    all_goals first | exact hs ▸ c1 _ hx | exact c2 | exact hf ▸ c3 | contradiction | (simp [lnsOk, hs, hf]; done)
  · repeat' (first | with_reducible refine T.ok_ob ?_ (fun _ => ?_) | with_reducible refine T.ok_ite (fun _ => ?_) (fun _ => ?_) | with_reducible refine T.ok_leaf ?_)
    all_goals first | exact hs ▸ c1 _ hx | exact c2 | exact hf ▸ c3 | contradiction | (simp [lnsOk, hs, hf]; done)

/-! ### the laws' own -/
theorem k_laws_sameComplex {P : Program} {f g : FuncId} (h : Is_laws_sameComplex P f g) (hg : C_laws_sameFloat P g) : C_laws_sameComplex P f := by
  rintro a b c d rfl rfl
  exact q_laws_sameComplex h _ _ _ _ ⟨hg _ _ rfl, fun _ => ⟨fun _ => ⟨hg _ _ rfl, fun _ => rfl⟩, fun h => Bool.noConfusion h⟩⟩
theorem k_laws_eqComplex64S {P : Program} {f g : FuncId} (h : Is_laws_eqComplex64S P f g) (hg : C_laws_sameComplex P g) : C_laws_eqComplex64S P f := by
  rintro xs ys rfl hx
  refine q_laws_eqComplex64S h _ _ ⟨fun h => absurd h (by simp), fun _ => ⟨?_, fun _ => rfl⟩⟩
  refine for_up (e := .exit 0) ys.length (fun i => h_laws_eqComplex64S_L0 ys ys i) rfl (fun i hi => ?_) ?_
  · refine q_laws_eqComplex64S_L0 _ _ _ ⟨fun _ => ⟨by omega, fun _ => ⟨⟨fconvOk_32_64 _, fconvOk_32_64 _⟩, fun _ => ⟨by omega, fun _ => ⟨⟨fconvOk_32_64 _, fconvOk_32_64 _⟩, fun _ => ⟨hg _ _ _ _ rfl rfl, fun _ => ⟨fun h => Bool.noConfusion h, fun _ => ?_⟩⟩⟩⟩⟩⟩, fun h => absurd h (by simp; omega)⟩
    show _ = _
    rw [wrap64_id (by omega) (by omega)]
    rfl
  · exact q_laws_eqComplex64S_L0 _ _ _ ⟨fun h => absurd h (by simp), fun _ => rfl⟩
theorem cmarks_len : ∀ (n : Nat) (k : Int), (marksC n k).length = n
  | 0, _ => rfl
  | n + 1, k => by simp [marksC, cmarks_len n]
theorem cmarks_get : ∀ (n i : Nat) (k : Int), i < n → (marksC n k).getD i (0, 0) = ckM (k + i)
  | 0, i, k, h => by omega
  | n + 1, 0, k, h => by simp [marksC]
  | n + 1, i + 1, k, h => by
    have := cmarks_get n i (k + 1) (by omega)
    simp only [marksC, List.getD_cons_succ, this]
    congr 1; omega
theorem cmarks_set (xs : LC) (n i : Nat) (k : Int) (h : i < n) (hx : xs.length = n) : ((marksC n k).take i ++ xs.drop i).set i (ckM (k + i)) = (marksC n k).take (i + 1) ++ xs.drop (i + 1) := by
  have hl := cmarks_len n k
  rw [List.drop_eq_getElem_cons (by omega), ← cmarks_get n i k h]
  exact take_set_next _ _ _ (by omega) _ _
theorem fofi_bd {n : Int} (h : 0 ≤ n ∧ n ≤ 8589934592) : fconvOk .f64 .f32 (fofi .f64 n) = true := by
  obtain ⟨h1, h2⟩ := fofi_val (n := n) (by omega)
  refine narrow_bd (J := 1126) ⟨h1, ?_⟩ (by omega)
  rw [h2, un52, Int.natAbs_mul, Int.natAbs_natCast, Nat.mul_comm]
  exact Nat.mul_le_mul_left _ (by omega)
theorem nar_self (n : Int) : feq .f32 (fconv .f64 .f32 (fofi .f64 n)) (fconv .f64 .f32 (fofi .f64 n)) = true := by
  have hx : nanB .f64 (fofi .f64 n) = false := by
    have := fofi_fne .f64 n
    rwa [fne_self] at this
  have h2 : nanB .f32 (fconv .f64 .f32 (fofi .f64 n)) = false := by
    unfold nanB at *
    unfold fconv
    simp only [reduceCtorEq, if_false]
    generalize fofi .f64 n = x at *
    simp only [FloatKind.decode]
    cases hr : FloatKind.f64.format.read x with
    | nan s t => rw [hr] at hx; cases hx
    | infinity s => cases s <;> decide
    | number s m e => exact read_write Ieee.single (.number s m e) rfl
  rw [feq_eq, h2]; simp

theorem k_laws_markComplex64S {P : Program} {f : FuncId} (h : Is_laws_markComplex64S P f) : C_laws_markComplex64S P f := by
  intro xs k hk hx
  refine q_laws_markComplex64S h xs k ⟨?_, fun _ => ⟨⟨(cmarks_len _ _).symm, trivial⟩, fun _ => rfl⟩⟩
  refine for_up (e := .exit 0) xs.length (fun i => h_laws_markComplex64S_L0 xs k ((marksC xs.length k).take i ++ xs.drop i) (k + i) i) (by simp) (fun i hi => ?_) ?_
  · refine q_laws_markComplex64S_L0 _ _ _ _ _ ⟨fun _ => ⟨trivial, fun _ => ⟨⟨fofi_bd (by omega), rfl⟩, fun _ => ⟨by simp [cmarks_len]; omega, fun _ => ⟨rfl, fun _ => ?_⟩⟩⟩⟩, fun h => absurd h (by simp [cmarks_len]; omega)⟩
    show _ = _
    rw [wrap64_id (by omega) (by omega), wrap64_id (by omega) (by omega)]
    have e := cmarks_set xs xs.length i k hi rfl
    unfold ckM at e
    simp only [Int.toNat_natCast, Nat.zero_add, Nat.sub_zero, e]
    rw [Int.add_assoc]; rfl
  · refine q_laws_markComplex64S_L0 _ _ _ _ _ ⟨fun h => absurd h (by simp [cmarks_len]), fun _ => ?_⟩
    have : (marksC xs.length k).take xs.length = marksC xs.length k := List.take_of_length_le (by rw [cmarks_len]; exact Nat.le_refl _)
    simp [T.ok, this]
theorem k_laws_heldComplex64S {P : Program} {f : FuncId} (h : Is_laws_heldComplex64S P f) : C_laws_heldComplex64S P f := by
  rintro xs k n rfl hk hn
  have hl := cmarks_len n k
  refine q_laws_heldComplex64S h _ k n ⟨?_, fun _ => rfl⟩
  refine for_up (e := .exit 0) n (fun i => h_laws_heldComplex64S_L0 (marksC n k) k n (k + i) i) (by simp) (fun i hi => ?_) ?_
  · refine q_laws_heldComplex64S_L0 _ _ _ _ _ ⟨fun _ => ⟨by omega, fun _ => ⟨trivial, fun _ => ⟨⟨fofi_bd (by omega), rfl⟩, fun _ => ⟨fun h => ?_, fun _ => ?_⟩⟩⟩⟩, fun h => absurd h (by simp [hl]; omega)⟩
    · rw [getD_nat, cmarks_get n i k hi] at h
      simp only [ckM, nar_self, show feq .f32 1065353216 1065353216 = true by decide, Bool.and_self, Bool.not_true, Bool.false_eq_true] at h
    · show _ = _
      rw [wrap64_id (by omega) (by omega), wrap64_id (by omega) (by omega), Int.add_assoc]; rfl
  · refine q_laws_heldComplex64S_L0 _ _ _ _ _ ⟨fun h => absurd h (by simp [hl]), fun _ => ?_⟩
    simp [T.ok, hl]

end Go.Proofs.LV
