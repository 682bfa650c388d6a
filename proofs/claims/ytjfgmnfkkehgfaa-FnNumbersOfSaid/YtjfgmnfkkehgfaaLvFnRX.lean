/- Texts that belong together. -/
import Derived.Test.YtjfgmnfkkehgfaaLvHalfX
import Derived.Test.YtjfgmnfkkehgfaaLvEv
namespace Go.Proofs.LV
open Go
set_option linter.unusedVariables false
set_option linter.unusedSimpArgs false

abbrev C_math_archFloor (P : Program) (f : FuncId) : Prop := ∀ x : Nat, nanB .f64 x = false → VCall P f [.f .f64 x] (.f .f64 (ffloor x))
theorem k_math_archFloor {P : Program} {f : FuncId} (h : ExtIs P f (Extern.MathFloor.toIntegral "math.archFloor" .down)) : C_math_archFloor P f := fun x hx => floor_ok h x hx
def oc1_math_archFloor (as : List AV) : T AV := match as with | [.f _ x] => .leaf (.f .f64 (ffloor x)) | _ => .fail

def qP (n : Nat) (share : Nat) : Nat := fmul .f32 share (fofi .f32 ((n : Int) - 1))
def qK (n share : Nat) : Nat := ((ftoi .f32 .i64 (qP n share)).getD 0).toNat
def qV (xs : List Nat) (share : Nat) : Nat :=
  if qK xs.length share + 1 < xs.length then fadd .f32 ((sortM KS xs).getD (qK xs.length share) 0) (fmul .f32 (fsub .f32 (qP xs.length share) (fofi .f32 (qK xs.length share : Int))) (fsub .f32 ((sortM KS xs).getD (qK xs.length share + 1) 0) ((sortM KS xs).getD (qK xs.length share) 0)))
  else (sortM KS xs).getD (xs.length - 1) 0
def qtOk (xs : List Nat) (share : Nat) : Bool := (seriesM xs && isShareM share) && finM (qV xs share)

open Go.IntKind (wrap)
-- FN math_Floor
def ps_math_Floor : List Nat := [0, 2]
def b_math_Floor (gq0 gq1 : FuncId) : VCode :=
 (.seq
 (.region false [
 ⟨some 2, .mv, [.k (.f .f64 0)], none⟩])
 (.seq
 (.cond (.k (.b true))
 (.seq
 (.region false [
 ⟨some 3, .mv, [.t 0], none⟩,
 ⟨some 4, (.call gq0), [.t 3], none⟩,
 ⟨some 2, .mv, [.t 4], none⟩])
 .ret)
 .skip)
 (.seq
 (.region false [
 ⟨some 5, .mv, [.t 0], none⟩,
 ⟨some 6, (.call gq1), [.t 5], none⟩,
 ⟨some 2, .mv, [.t 6], none⟩])
 .ret)))

abbrev Is_math_Floor (P : Program) (g_f : FuncId) (gq0 gq1 : FuncId) : Prop := FnIs P g_f 7 [.t 2] (b_math_Floor gq0 gq1)

abbrev C_math_Floor (P : Program) (g_f : FuncId) : Prop := ∀ (x : Nat) (hx : nanB .f64 x = false), VCall P g_f [.f .f64 x] (.f .f64 (ffloor x))
def oc1_math_Floor (as : List AV) : T AV := match as with | [.f .f64 x] => .leaf (.f .f64 (ffloor x)) | _ => .fail
def oc_math_Floor (x : Nat) (d : Nat) (as : List AV) : T AV := match d with | 4 => oc1_math_archFloor as | _ => .fail



theorem q_math_Floor {P : Program} {g_f : FuncId} {gq0 gq1 : FuncId} (h_ : Is_math_Floor P g_f gq0 gq1) (x : Nat) (ht : T.ok (fun x_ => x_ = .f .f64 (ffloor x)) (
 T.ob ((VCall P) gq0 [AV.f .f64 x] (AV.f .f64 (ffloor x))) (T.leaf (AV.f .f64 (ffloor x))))) :
 VCall P g_f [.f .f64 x] (.f .f64 (ffloor x)) := h_.call_of ps_math_Floor ⟨oc_math_Floor x, fun _ _ => none⟩ (by kernel_rfl) ht

-- END math_Floor
-- FN impl_floorOf
def ps_impl_floorOf : List Nat := [0, 2]
def b_impl_floorOf (gq0 : FuncId) : VCode :=
 (.seq
 (.region false [
 ⟨some 2, .mv, [.k (.i .i64 0)], none⟩])
 (.seq
 (.region false [
 ⟨some 3, .mv, [.t 0], none⟩,
 ⟨some 4, (.convF .f64), [.t 3], none⟩,
 ⟨some 5, (.call gq0), [.t 4], none⟩,
 ⟨some 6, (.convI .i64), [.t 5], none⟩,
 ⟨some 2, .mv, [.t 6], none⟩])
 .ret))

abbrev Is_impl_floorOf (P : Program) (g_f : FuncId) (gq0 : FuncId) : Prop := FnIs P g_f 7 [.t 2] (b_impl_floorOf gq0)

abbrev C_impl_floorOf (P : Program) (g_f : FuncId) : Prop := ∀ (x : Nat) (k : Nat) (hn : nanB .f64 (fconv .f32 .f64 x) = false) (hk : ftoi .f64 .i64 (ffloor (fconv .f32 .f64 x)) = some (k : Int)), VCall P g_f [.f .f32 x] (.i .i64 k)
def oc1_impl_floorOf (as : List AV) : T AV := match as with | [.f .f32 x] => .leaf (.i .i64 ((ftoi .f64 .i64 (ffloor (fconv .f32 .f64 x))).getD 0)) | _ => .fail
def oc_impl_floorOf (x : Nat) (k : Nat) (d : Nat) (as : List AV) : T AV := match d with | 5 => oc1_math_Floor as | _ => .fail



theorem q_impl_floorOf {P : Program} {g_f : FuncId} {gq0 : FuncId} (h_ : Is_impl_floorOf P g_f gq0) (x : Nat) (k : Nat) (ht : T.ok (fun x_ => x_ = .i .i64 k) (
 T.ob (fconvOk .f32 .f64 x = true)
 (T.ob ((VCall P) gq0 [AV.f .f64 (fconv .f32 .f64 x)] (AV.f .f64 (ffloor (fconv .f32 .f64 x))))
 (T.ob (Option.isSome (ftoi .f64 .i64 (ffloor (fconv .f32 .f64 x))) = true)
 (T.leaf (AV.i .i64 (Option.getD (ftoi .f64 .i64 (ffloor (fconv .f32 .f64 x))) 0))))))) :
 VCall P g_f [.f .f32 x] (.i .i64 k) := h_.call_of ps_impl_floorOf ⟨oc_impl_floorOf x k, fun _ _ => none⟩ (by kernel_rfl) ht

-- END impl_floorOf
-- FN impl_QuantileOf
def ps_impl_QuantileOf : List Nat := [0, 1, 4, 5, 6, 7, 8, 16, 31]
def b_impl_QuantileOf (gq0 gq1 gq2 gq3 gq4 : FuncId) : VCode :=
 (.seq
 (.region false [
 ⟨some 4, .mv, [.k (.f .f32 0)], none⟩,
 ⟨some 5, .mv, [.k (.b false)], none⟩])
 (.seq
 (.seq
 (.region false [
 ⟨some 9, .mv, [.t 0], none⟩,
 ⟨some 10, (.call gq0), [.t 9], none⟩,
 ⟨some 11, .not, [.t 10], none⟩,
 ⟨some 12, .mv, [.t 11], none⟩,
 ⟨some 13, .mv, [.t 1], some (12, false)⟩,
 ⟨some 14, (.call gq1), [.t 13], some (12, false)⟩,
 ⟨some 15, .not, [.t 14], some (12, false)⟩,
 ⟨some 16, .pick, [.t 12, .k (.b true), .t 15], none⟩])
 (.cond (.t 16)
 (.seq
 (.region false [
 ⟨some 4, .mv, [.k (.f .f32 0)], none⟩,
 ⟨some 5, .mv, [.k (.b false)], none⟩])
 .ret)
 .skip))
 (.seq
 (.region false [
 ⟨some 17, .mv, [.t 0], none⟩,
 ⟨some 18, (.call gq2), [.t 17], none⟩,
 ⟨some 6, .mv, [.t 18], none⟩])
 (.seq
 (.region false [
 ⟨some 19, .mv, [.t 1], none⟩,
 ⟨some 20, .mv, [.t 6], none⟩,
 ⟨some 21, .len, [.t 20], none⟩,
 ⟨some 22, (.bin .sub), [.t 21, .k (.i .i64 1)], none⟩,
 ⟨some 23, (.convF .f32), [.t 22], none⟩,
 ⟨some 24, (.bin .mul), [.t 19, .t 23], none⟩,
 ⟨some 7, .mv, [.t 24], none⟩])
 (.seq
 (.region false [
 ⟨some 25, .mv, [.t 7], none⟩,
 ⟨some 26, (.call gq3), [.t 25], none⟩,
 ⟨some 8, .mv, [.t 26], none⟩])
 (.seq
 (.seq
 (.region false [
 ⟨some 27, .mv, [.t 8], none⟩,
 ⟨some 28, (.bin .add), [.t 27, .k (.i .i64 1)], none⟩,
 ⟨some 29, .mv, [.t 6], none⟩,
 ⟨some 30, .len, [.t 29], none⟩,
 ⟨some 31, (.bin .geq), [.t 28, .t 30], none⟩])
 (.cond (.t 31)
 (.seq
 (.region false [
 ⟨some 32, .mv, [.t 6], none⟩,
 ⟨some 33, .mv, [.t 6], none⟩,
 ⟨some 34, .len, [.t 33], none⟩,
 ⟨some 35, (.bin .sub), [.t 34, .k (.i .i64 1)], none⟩,
 ⟨some 36, .iaddr, [.t 32, .t 35], none⟩,
 ⟨some 37, .load, [.t 36], none⟩,
 ⟨some 4, .mv, [.t 37], none⟩,
 ⟨some 5, .mv, [.k (.b true)], none⟩])
 .ret)
 .skip))
 (.seq
 (.region true [
 ⟨some 38, .mv, [.t 6], none⟩,
 ⟨some 39, .mv, [.t 8], none⟩,
 ⟨some 40, .iaddr, [.t 38, .t 39], none⟩,
 ⟨some 41, .load, [.t 40], none⟩,
 ⟨some 42, .mv, [.t 7], none⟩,
 ⟨some 43, .mv, [.t 8], none⟩,
 ⟨some 44, (.convF .f32), [.t 43], none⟩,
 ⟨some 45, (.bin .sub), [.t 42, .t 44], none⟩,
 ⟨some 46, .mv, [.t 6], none⟩,
 ⟨some 47, .mv, [.t 8], none⟩,
 ⟨some 48, (.bin .add), [.t 47, .k (.i .i64 1)], none⟩,
 ⟨some 49, .iaddr, [.t 46, .t 48], none⟩,
 ⟨some 50, .load, [.t 49], none⟩,
 ⟨some 51, .mv, [.t 6], none⟩,
 ⟨some 52, .mv, [.t 8], none⟩,
 ⟨some 53, .iaddr, [.t 51, .t 52], none⟩,
 ⟨some 54, .load, [.t 53], none⟩,
 ⟨some 55, (.bin .sub), [.t 50, .t 54], none⟩,
 ⟨some 56, (.bin .mul), [.t 45, .t 55], none⟩,
 ⟨some 57, (.bin .add), [.t 41, .t 56], none⟩,
 ⟨some 58, (.call gq4), [.t 57], none⟩,
 ⟨some 59, (.extract 0), [.t 58], none⟩,
 ⟨some 60, (.extract 1), [.t 58], none⟩,
 ⟨some 4, .mv, [.t 59], none⟩,
 ⟨some 5, .mv, [.t 60], none⟩])
 .ret)))))))

abbrev Is_impl_QuantileOf (P : Program) (g_f : FuncId) (gq0 gq1 gq2 gq3 gq4 : FuncId) : Prop := FnIs P g_f 61 [.t 4, .t 5] (b_impl_QuantileOf gq0 gq1 gq2 gq3 gq4)

abbrev C_impl_QuantileOf (P : Program) (g_f : FuncId) : Prop := ∀ (xs : List Nat) (share : Nat) (hx : xs.length ≤ maxLen), VCall P g_f [PS [0] .f32 xs, .f .f32 share] (.tup [.f .f32 (if qtOk xs share = true then qV xs share else 0), .b (qtOk xs share)])
def oc_impl_QuantileOf (xs : List Nat) (share : Nat) (d : Nat) (as : List AV) : T AV := match d with | 10 => oc1_impl_IsSeries as | 14 => oc1_impl_isShare as | 18 => oc1_impl_sorted as | 26 => oc1_impl_floorOf as | 58 => oc1_impl_ifFinite as | _ => .fail



theorem q_impl_QuantileOf {P : Program} {g_f : FuncId} {gq0 gq1 gq2 gq3 gq4 : FuncId} (h_ : Is_impl_QuantileOf P g_f gq0 gq1 gq2 gq3 gq4) (xs : List Nat) (share : Nat) (ht : T.ok (fun x_ => x_ = .tup [.f .f32 (if qtOk xs share = true then qV xs share else 0), .b (qtOk xs share)]) (
 T.ob ((VCall P) gq0 [AV.sl (Tag.par [0]) 0 (Cont.f .f32 xs)] (AV.b (seriesM xs)))
 (T.ite (!seriesM xs) (T.leaf (AV.tup [AV.f .f32 0, AV.b false]))
 (T.ob ((VCall P) gq1 [AV.f .f32 share] (AV.b (isShareM share)))
 (T.ite (!isShareM share) (T.leaf (AV.tup [AV.f .f32 0, AV.b false]))
 (T.ob ((VCall P) gq2 [AV.sl (Tag.par [0]) 0 (Cont.f .f32 xs)] (AV.sl (Tag.own 0) 0 (Cont.f .f32 (sortM KS xs))))
 (T.ob True
 (T.ob
 ((VCall P) gq3 [AV.f .f32 (fmul .f32 share (fofi .f32 (wrap .i64 ((↑(List.length (sortM KS xs)) : Int) - 1))))]
 (AV.i .i64
 (Option.getD
 (ftoi .f64 .i64
 (ffloor (fconv .f32 .f64 (fmul .f32 share (fofi .f32 (wrap .i64 ((↑(Cont.len (Cont.f .f32 (sortM KS xs))) : Int) - 1)))))))
 0)))
 (T.ite
 (decide
 (wrap .i64
 (Option.getD
 (ftoi .f64 .i64
 (ffloor (fconv .f32 .f64 (fmul .f32 share (fofi .f32 (wrap .i64 ((↑(Cont.len (Cont.f .f32 (sortM KS xs))) : Int) - 1)))))))
 0 +
 1) ≥
 (↑(List.length (sortM KS xs)) : Int)))
 (T.ob (0 ≤ wrap .i64 ((↑(List.length (sortM KS xs)) : Int) - 1) ∧ wrap .i64 ((↑(List.length (sortM KS xs)) : Int) - 1) < (↑(List.length (sortM KS xs)) : Int))
 (T.leaf (AV.tup [AV.f .f32 (List.getD (sortM KS xs) (Int.toNat (wrap .i64 ((↑(List.length (sortM KS xs)) : Int) - 1))) 0), AV.b true])))
 (T.ob
 (0 ≤
 Option.getD
 (ftoi .f64 .i64
 (ffloor (fconv .f32 .f64 (fmul .f32 share (fofi .f32 (wrap .i64 ((↑(Cont.len (Cont.f .f32 (sortM KS xs))) : Int) - 1)))))))
 0 ∧
 Option.getD
 (ftoi .f64 .i64
 (ffloor (fconv .f32 .f64 (fmul .f32 share (fofi .f32 (wrap .i64 ((↑(Cont.len (Cont.f .f32 (sortM KS xs))) : Int) - 1)))))))
 0 <
 (↑(List.length (sortM KS xs)) : Int))
 (T.ob True
 (T.ob
 (0 ≤
 wrap .i64
 (Option.getD
 (ftoi .f64 .i64
 (ffloor (fconv .f32 .f64 (fmul .f32 share (fofi .f32 (wrap .i64 ((↑(Cont.len (Cont.f .f32 (sortM KS xs))) : Int) - 1)))))))
 0 +
 1) ∧
 wrap .i64
 (Option.getD
 (ftoi .f64 .i64
 (ffloor (fconv .f32 .f64 (fmul .f32 share (fofi .f32 (wrap .i64 ((↑(Cont.len (Cont.f .f32 (sortM KS xs))) : Int) - 1)))))))
 0 +
 1) <
 (↑(List.length (sortM KS xs)) : Int))
 (T.ob
 (0 ≤
 Option.getD
 (ftoi .f64 .i64
 (ffloor (fconv .f32 .f64 (fmul .f32 share (fofi .f32 (wrap .i64 ((↑(Cont.len (Cont.f .f32 (sortM KS xs))) : Int) - 1)))))))
 0 ∧
 Option.getD
 (ftoi .f64 .i64
 (ffloor (fconv .f32 .f64 (fmul .f32 share (fofi .f32 (wrap .i64 ((↑(Cont.len (Cont.f .f32 (sortM KS xs))) : Int) - 1)))))))
 0 <
 (↑(List.length (sortM KS xs)) : Int))
 (T.ob
 ((VCall P) gq4
 [AV.f .f32
 (fadd .f32
 (List.getD (sortM KS xs)
 (Int.toNat
 (Option.getD
 (ftoi .f64 .i64
 (ffloor
 (fconv .f32 .f64 (fmul .f32 share (fofi .f32 (wrap .i64 ((↑(Cont.len (Cont.f .f32 (sortM KS xs))) : Int) - 1)))))))
 0))
 0)
 (fmul .f32
 (fsub .f32 (fmul .f32 share (fofi .f32 (wrap .i64 ((↑(List.length (sortM KS xs)) : Int) - 1))))
 (fofi .f32
 (Option.getD
 (ftoi .f64 .i64
 (ffloor
 (fconv .f32 .f64
 (fmul .f32 share (fofi .f32 (wrap .i64 ((↑(Cont.len (Cont.f .f32 (sortM KS xs))) : Int) - 1)))))))
 0)))
 (fsub .f32
 (List.getD (sortM KS xs)
 (Int.toNat
 (wrap .i64
 (Option.getD
 (ftoi .f64 .i64
 (ffloor
 (fconv .f32 .f64
 (fmul .f32 share (fofi .f32 (wrap .i64 ((↑(Cont.len (Cont.f .f32 (sortM KS xs))) : Int) - 1)))))))
 0 +
 1)))
 0)
 (List.getD (sortM KS xs)
 (Int.toNat
 (Option.getD
 (ftoi .f64 .i64
 (ffloor
 (fconv .f32 .f64
 (fmul .f32 share (fofi .f32 (wrap .i64 ((↑(Cont.len (Cont.f .f32 (sortM KS xs))) : Int) - 1)))))))
 0))
 0))))]
 (AV.tup
 [AV.f .f32
 (numM
 (fadd .f32
 (List.getD (sortM KS xs)
 (Int.toNat
 (Option.getD
 (ftoi .f64 .i64
 (ffloor
 (fconv .f32 .f64
 (fmul .f32 share (fofi .f32 (wrap .i64 ((↑(Cont.len (Cont.f .f32 (sortM KS xs))) : Int) - 1)))))))
 0))
 0)
 (fmul .f32
 (fsub .f32 (fmul .f32 share (fofi .f32 (wrap .i64 ((↑(List.length (sortM KS xs)) : Int) - 1))))
 (fofi .f32
 (Option.getD
 (ftoi .f64 .i64
 (ffloor
 (fconv .f32 .f64
 (fmul .f32 share (fofi .f32 (wrap .i64 ((↑(Cont.len (Cont.f .f32 (sortM KS xs))) : Int) - 1)))))))
 0)))
 (fsub .f32
 (List.getD (sortM KS xs)
 (Int.toNat
 (wrap .i64
 (Option.getD
 (ftoi .f64 .i64
 (ffloor
 (fconv .f32 .f64
 (fmul .f32 share (fofi .f32 (wrap .i64 ((↑(Cont.len (Cont.f .f32 (sortM KS xs))) : Int) - 1)))))))
 0 +
 1)))
 0)
 (List.getD (sortM KS xs)
 (Int.toNat
 (Option.getD
 (ftoi .f64 .i64
 (ffloor
 (fconv .f32 .f64
 (fmul .f32 share (fofi .f32 (wrap .i64 ((↑(Cont.len (Cont.f .f32 (sortM KS xs))) : Int) - 1)))))))
 0))
 0))))),
 AV.b
 (finM
 (fadd .f32
 (List.getD (sortM KS xs)
 (Int.toNat
 (Option.getD
 (ftoi .f64 .i64
 (ffloor
 (fconv .f32 .f64
 (fmul .f32 share (fofi .f32 (wrap .i64 ((↑(Cont.len (Cont.f .f32 (sortM KS xs))) : Int) - 1)))))))
 0))
 0)
 (fmul .f32
 (fsub .f32 (fmul .f32 share (fofi .f32 (wrap .i64 ((↑(List.length (sortM KS xs)) : Int) - 1))))
 (fofi .f32
 (Option.getD
 (ftoi .f64 .i64
 (ffloor
 (fconv .f32 .f64
 (fmul .f32 share (fofi .f32 (wrap .i64 ((↑(Cont.len (Cont.f .f32 (sortM KS xs))) : Int) - 1)))))))
 0)))
 (fsub .f32
 (List.getD (sortM KS xs)
 (Int.toNat
 (wrap .i64
 (Option.getD
 (ftoi .f64 .i64
 (ffloor
 (fconv .f32 .f64
 (fmul .f32 share (fofi .f32 (wrap .i64 ((↑(Cont.len (Cont.f .f32 (sortM KS xs))) : Int) - 1)))))))
 0 +
 1)))
 0)
 (List.getD (sortM KS xs)
 (Int.toNat
 (Option.getD
 (ftoi .f64 .i64
 (ffloor
 (fconv .f32 .f64
 (fmul .f32 share (fofi .f32 (wrap .i64 ((↑(Cont.len (Cont.f .f32 (sortM KS xs))) : Int) - 1)))))))
 0))
 0)))))]))
 (T.leaf
 (AV.tup
 [AV.f .f32
 (numM
 (fadd .f32
 (List.getD (sortM KS xs)
 (Int.toNat
 (Option.getD
 (ftoi .f64 .i64
 (ffloor
 (fconv .f32 .f64
 (fmul .f32 share (fofi .f32 (wrap .i64 ((↑(Cont.len (Cont.f .f32 (sortM KS xs))) : Int) - 1)))))))
 0))
 0)
 (fmul .f32
 (fsub .f32 (fmul .f32 share (fofi .f32 (wrap .i64 ((↑(List.length (sortM KS xs)) : Int) - 1))))
 (fofi .f32
 (Option.getD
 (ftoi .f64 .i64
 (ffloor
 (fconv .f32 .f64
 (fmul .f32 share (fofi .f32 (wrap .i64 ((↑(Cont.len (Cont.f .f32 (sortM KS xs))) : Int) - 1)))))))
 0)))
 (fsub .f32
 (List.getD (sortM KS xs)
 (Int.toNat
 (wrap .i64
 (Option.getD
 (ftoi .f64 .i64
 (ffloor
 (fconv .f32 .f64
 (fmul .f32 share (fofi .f32 (wrap .i64 ((↑(Cont.len (Cont.f .f32 (sortM KS xs))) : Int) - 1)))))))
 0 +
 1)))
 0)
 (List.getD (sortM KS xs)
 (Int.toNat
 (Option.getD
 (ftoi .f64 .i64
 (ffloor
 (fconv .f32 .f64
 (fmul .f32 share (fofi .f32 (wrap .i64 ((↑(Cont.len (Cont.f .f32 (sortM KS xs))) : Int) - 1)))))))
 0))
 0))))),
 AV.b
 (finM
 (fadd .f32
 (List.getD (sortM KS xs)
 (Int.toNat
 (Option.getD
 (ftoi .f64 .i64
 (ffloor
 (fconv .f32 .f64
 (fmul .f32 share (fofi .f32 (wrap .i64 ((↑(Cont.len (Cont.f .f32 (sortM KS xs))) : Int) - 1)))))))
 0))
 0)
 (fmul .f32
 (fsub .f32 (fmul .f32 share (fofi .f32 (wrap .i64 ((↑(List.length (sortM KS xs)) : Int) - 1))))
 (fofi .f32
 (Option.getD
 (ftoi .f64 .i64
 (ffloor
 (fconv .f32 .f64
 (fmul .f32 share (fofi .f32 (wrap .i64 ((↑(Cont.len (Cont.f .f32 (sortM KS xs))) : Int) - 1)))))))
 0)))
 (fsub .f32
 (List.getD (sortM KS xs)
 (Int.toNat
 (wrap .i64
 (Option.getD
 (ftoi .f64 .i64
 (ffloor
 (fconv .f32 .f64
 (fmul .f32 share (fofi .f32 (wrap .i64 ((↑(Cont.len (Cont.f .f32 (sortM KS xs))) : Int) - 1)))))))
 0 +
 1)))
 0)
 (List.getD (sortM KS xs)
 (Int.toNat
 (Option.getD
 (ftoi .f64 .i64
 (ffloor
 (fconv .f32 .f64
 (fmul .f32 share (fofi .f32 (wrap .i64 ((↑(Cont.len (Cont.f .f32 (sortM KS xs))) : Int) - 1)))))))
 0))
 0)))))])))))))))))))))) :
 VCall P g_f [PS [0] .f32 xs, .f .f32 share] (.tup [.f .f32 (if qtOk xs share = true then qV xs share else 0), .b (qtOk xs share)]) := h_.call_of ps_impl_QuantileOf ⟨oc_impl_QuantileOf xs share, fun _ _ => none⟩ (by kernel_rfl) ht

-- END impl_QuantileOf

theorem sort_mem : ∀ {l : List Nat} {z : Nat}, z ∈ sortM KS l → z ∈ l
  | [], z, h => h
  | x :: l, z, h => by
    rcases insFirst_mem (K := KS) (show z ∈ sortM.insFirst KS x (sortM KS l) from h) with h | h
    · exact h ▸ List.mem_cons_self
    · exact List.mem_cons_of_mem _ (sort_mem h)
theorem sort_fin {xs : List Nat} (h : seriesM xs = true) {j : Nat} (hj : j < xs.length) : finM ((sortM KS xs).getD j 0) = true := by
  have hj' : j < (sortM KS xs).length := by rw [sort_len]; exact hj
  rw [List.getD_eq_getElem?_getD, List.getElem?_eq_getElem hj', Option.getD_some]
  have hm := sort_mem (List.getElem_mem hj')
  simp only [seriesM, Bool.and_eq_true, finAllM, List.all_eq_true] at h
  exact h.2.2 _ hm
/-- what the place is -/
theorem q_place {xs : List Nat} {share : Nat} (hs : seriesM xs = true) (hh : isShareM share = true) :
    ∃ k : Nat, k < 2 ^ 24 ∧ qK xs.length share = k ∧ ftoi .f32 .i64 (qP xs.length share) = some (k : Int) ∧ ftoi .f64 .i64 (ffloor (fconv .f32 .f64 (qP xs.length share))) = some (k : Int) ∧ nanB .f64 (fconv .f32 .f64 (qP xs.length share)) = false := by
  have hl := series_len hs
  have en : ((xs.length : Int) - 1) = ((xs.length - 1 : Nat) : Int) := by omega
  obtain ⟨s, m, e, hr, hz, he⟩ := part_read (x := share) (n := xs.length - 1) hh (by omega)
  obtain ⟨k, hk, h1, h2, h3⟩ := ftoi_floor hr hz he
  unfold qK qP
  rw [en]
  exact ⟨k, hk, by rw [h1]; rfl, h1, h2, h3⟩

theorem k_math_Floor {P : Program} {f g1 g2 : FuncId} (h : Is_math_Floor P f g1 g2) (c1 : C_math_archFloor P g1) : C_math_Floor P f := by
  intro x hx
  refine q_math_Floor h x ?_
  repeat' (first | with_reducible refine T.ok_ob ?_ (fun _ => ?_) | with_reducible refine T.ok_ite (fun _ => ?_) (fun _ => ?_) | with_reducible refine T.ok_leaf ?_)
  all_goals first | exact c1 x hx | rfl
theorem k_impl_floorOf {P : Program} {f g1 : FuncId} (h : Is_impl_floorOf P f g1) (c1 : C_math_Floor P g1) : C_impl_floorOf P f := by
  intro x k hn hk
  refine q_impl_floorOf h x k ?_
  have c1 := c1 (fconv .f32 .f64 x) hn
  rw [hk]
  repeat' (first | with_reducible refine T.ok_ob ?_ (fun _ => ?_) | with_reducible refine T.ok_ite (fun _ => ?_) (fun _ => ?_) | with_reducible refine T.ok_leaf ?_)
  all_goals first | exact fconvOk_32_64 _ | exact c1 | rfl
theorem k_impl_QuantileOf {P : Program} {f g1 g2 g3 g4 g5 : FuncId} (h : Is_impl_QuantileOf P f g1 g2 g3 g4 g5) (c1 : C_impl_IsSeries P g1) (c2 : C_impl_isShare P g2) (c3 : C_impl_sorted P g3) (c4 : C_impl_floorOf P g4) (c5 : C_impl_ifFinite P g5) : C_impl_QuantileOf P f := by
  intro xs share hx
  refine q_impl_QuantileOf h xs share ?_
  cases hs : seriesM xs
  · repeat' (first | with_reducible refine T.ok_ob ?_ (fun _ => ?_) | with_reducible refine T.ok_ite (fun _ => ?_) (fun _ => ?_) | with_reducible refine T.ok_leaf ?_)
    all_goals first | exact hs ▸ c1 _ hx | contradiction | (simp [qtOk, hs]; done)
  cases hh : isShareM share
  · repeat' (first | with_reducible refine T.ok_ob ?_ (fun _ => ?_) | with_reducible refine T.ok_ite (fun _ => ?_) (fun _ => ?_) | with_reducible refine T.ok_leaf ?_)
    all_goals first | exact hs ▸ c1 _ hx | exact hh ▸ c2 _ | contradiction | (simp [qtOk, hs, hh]; done)
  have hl := series_len hs
  obtain ⟨k, hk, ek, e1, e2, e3⟩ := q_place hs hh
  have c3 := c3 xs hl.1 (series_ok hs) (by omega)
  have c4 := c4 (qP xs.length share) k e3 e2
  have ew : IntKind.wrap .i64 ((xs.length : Int) - 1) = (xs.length : Int) - 1 := wrap64_id (by omega) (by omega)
  have ek1 : IntKind.wrap .i64 ((k : Int) + 1) = ((k + 1 : Nat) : Int) := by rw [wrap64_id (by omega) (by omega)]; omega
  simp only [Cont.len, sort_len, ew]
  rw [show fmul .f32 share (fofi .f32 ((xs.length : Int) - 1)) = qP xs.length share from rfl, e2]
  simp only [Option.getD_some, ek1]
  have eL : (xs.length : Int).toNat - 1 = xs.length - 1 := by omega
  by_cases hc : k + 1 < xs.length
  · have ev : qV xs share = fadd .f32 ((sortM KS xs).getD k 0) (fmul .f32 (fsub .f32 (qP xs.length share) (fofi .f32 (k : Int))) (fsub .f32 ((sortM KS xs).getD (k + 1) 0) ((sortM KS xs).getD k 0))) := by
      unfold qV; rw [ek, if_pos hc]
    simp only [Int.toNat_natCast, ← ev]
    repeat' (first | with_reducible refine T.ok_ob ?_ (fun _ => ?_) | with_reducible refine T.ok_ite (fun _ => ?_) (fun _ => ?_) | with_reducible refine T.ok_leaf ?_)
    all_goals first | exact hs ▸ c1 _ hx | exact hh ▸ c2 _ | exact c3 | exact c4 | exact c5 _ | contradiction | omega | (exfalso; simp only [decide_eq_true_eq] at *; omega) | (simp [qtOk, hs, hh, numM]; done)
  · have ev : qV xs share = (sortM KS xs).getD (xs.length - 1) 0 := by unfold qV; rw [ek, if_neg hc]
    have ef : finM ((sortM KS xs).getD (xs.length - 1) 0) = true := sort_fin hs (by omega)
    have et : ((xs.length : Int) - 1).toNat = xs.length - 1 := by omega
    simp only [et, ← ev]
    repeat' (first | with_reducible refine T.ok_ob ?_ (fun _ => ?_) | with_reducible refine T.ok_ite (fun _ => ?_) (fun _ => ?_) | with_reducible refine T.ok_leaf ?_)
    all_goals first | exact hs ▸ c1 _ hx | exact hh ▸ c2 _ | exact c3 | exact c4 | exact c5 _ | contradiction | omega | (exfalso; simp only [decide_eq_true_eq, decide_eq_false_iff_not] at *; omega) | (simp only [qtOk, hs, hh, ev, ef, Bool.and_self, if_true]; done)
end Go.Proofs.LV

namespace Go.Proofs.LV
open Go
set_option linter.unusedVariables false

/-- the first n members of a row of statements -/
def front : Nat → VCode → VCode
  | 0, _ => .skip
  | n + 1, .seq a b => .seq a (front n b)
  | _ + 1, _ => .skip
/-- what follows them -/
def rest : Nat → VCode → VCode
  | 0, c => c
  | n + 1, .seq _ b => rest n b
  | _ + 1, c => c
/-- the tree of a piece: it goes on (none) or returns (some) -/
def evS (VC : FuncId → List AV → AV → Prop) (ps : List Nat) (rs : List RV) (r0 : AV) (O : Orc) (c : VCode) (σ : Env) : T (Option AV × Env) :=
  evC VC ps O c σ [] fun e σ _ => match e with
    | .normal => .leaf (none, σ)
    | .exit _ => .fail
    | .ret => match outRs rs σ with | some v => .leaf (some (AV.fin r0 v), []) | none => .fail
theorem evS_of {VC : FuncId → List AV → AV → Prop} {ps : List Nat} {rs : List RV} {r0 : AV} {O : Orc} {c : VCode} {σ : Env} {t : T (Option AV × Env)} {Q : Option AV × Env → Prop}
    (e : evS VC ps rs r0 O c σ = t) (ht : t.ok Q) : (evS VC ps rs r0 O c σ).ok Q := e ▸ ht

theorem front_ok {α : Type} {VC : FuncId → List AV → AV → Prop} {O : Orc} {Q : α → Prop} {ps : List Nat} : ∀ (n : Nat) (c : VCode) {σ : Env} {kn : Kn} {k : Ex → Env → Kn → T α}, (evC VC ps O (front n c) σ kn k).ok Q →
    ∃ e σ' kn', (k e σ' kn').ok Q ∧ (e = .normal → ∀ e2 σ2, Exec VC ps (rest n c) σ' e2 σ2 → Exec VC ps c σ e2 σ2) ∧ (e ≠ .normal → Exec VC ps c σ e σ')
  | 0, c, σ, kn, k, h => ⟨.normal, σ, kn, h, fun _ _ _ h => h, fun h => absurd rfl h⟩
  | n + 1, .seq a b, σ, kn, k, h => by
    unfold front evC at h
    obtain ⟨e, σ1, kn1, h1, h2⟩ := evC_ok h
    cases e with
    | normal =>
      obtain ⟨e', σ2, kn2, h3, h4, h5⟩ := front_ok n b h2
      exact ⟨e', σ2, kn2, h3, fun he e2 σ3 hx => .seq h1 (h4 he e2 σ3 hx), fun he => .seq h1 (h5 he)⟩
    | exit id => exact ⟨.exit id, σ1, kn1, h2, (fun h => by cases h), fun _ => .seqX h1 (by simp)⟩
    | ret => exact ⟨.ret, σ1, kn1, h2, (fun h => by cases h), fun _ => .seqX h1 (by simp)⟩
  | n + 1, .skip, σ, kn, k, h => ⟨.normal, σ, kn, h, fun _ _ _ h => h, fun h => absurd rfl h⟩
  | n + 1, .region _ _, σ, kn, k, h => ⟨.normal, σ, kn, h, fun _ _ _ h => h, fun h => absurd rfl h⟩
  | n + 1, .cond _ _ _, σ, kn, k, h => ⟨.normal, σ, kn, h, fun _ _ _ h => h, fun h => absurd rfl h⟩
  | n + 1, .block _ _, σ, kn, k, h => ⟨.normal, σ, kn, h, fun _ _ _ h => h, fun h => absurd rfl h⟩
  | n + 1, .loop _, σ, kn, k, h => ⟨.normal, σ, kn, h, fun _ _ _ h => h, fun h => absurd rfl h⟩
  | n + 1, .exit _, σ, kn, k, h => ⟨.normal, σ, kn, h, fun _ _ _ h => h, fun h => absurd rfl h⟩
  | n + 1, .ret, σ, kn, k, h => ⟨.normal, σ, kn, h, fun _ _ _ h => h, fun h => absurd rfl h⟩
  | n + 1, .bad, σ, kn, k, h => ⟨.normal, σ, kn, h, fun _ _ _ h => h, fun h => absurd rfl h⟩

/-- the code ends with this result -/
def Ends (P : Program) (ps : List Nat) (rs : List RV) (r : AV) (c : VCode) (σ : Env) : Prop :=
  ∃ e σ', Exec (VCall P) ps c σ e σ' ∧ (e = .normal ∨ e = .ret) ∧ ∃ v, outRs rs σ' = some v ∧ AV.fin r v = r

/-- the same; only some slots are handed on -/
def evK (VC : FuncId → List AV → AV → Prop) (ps ks : List Nat) (rs : List RV) (r0 : AV) (O : Orc) (c : VCode) (σ : Env) : T (Option AV × Env) :=
  evC VC ps O c σ [] fun e σ _ => match e with
    | .normal => .leaf (none, σ.clear ks)
    | .exit _ => .fail
    | .ret => match outRs rs σ with | some v => .leaf (some (AV.fin r0 v), []) | none => .fail
theorem evK_of {VC : FuncId → List AV → AV → Prop} {ps ks : List Nat} {rs : List RV} {r0 : AV} {O : Orc} {c : VCode} {σ : Env} {t : T (Option AV × Env)} {Q : Option AV × Env → Prop}
    (e : evK VC ps ks rs r0 O c σ = t) (ht : t.ok Q) : (evK VC ps ks rs r0 O c σ).ok Q := e ▸ ht
theorem T.ok_itrue {α : Type} {Q : α → Prop} {x y : T α} (h : x.ok Q) : (T.ite true x y).ok Q := ⟨fun _ => h, fun h => nomatch h⟩
theorem T.ok_ifalse {α : Type} {Q : α → Prop} {x y : T α} (h : y.ok Q) : (T.ite false x y).ok Q := ⟨(fun h => nomatch h), fun _ => h⟩
theorem T.ok_go {σ1 : Env} {H : Prop} {r : AV} (h : H) : (T.leaf ((none : Option AV), σ1)).ok (fun x => (x = (none, σ1) ∧ H) ∨ x = (some r, [])) := .inl ⟨rfl, h⟩
theorem T.ok_end {σ1 : Env} {H : Prop} {r a : AV} (h : a = r) : (T.leaf (some a, ([] : Env))).ok (fun x => (x = (none, σ1) ∧ H) ∨ x = (some r, [])) := .inr (by rw [h])
theorem T.ok_endL {r a : AV} (h : a = r) : (T.leaf (some a, ([] : Env))).ok (fun x => x = (some r, [])) := by subst h; rfl

section
variable {P : Program} {ps : List Nat} {rs : List RV} {r : AV} {O : Orc}
theorem cut_stepK {ks : List Nat} {n : Nat} {c : VCode} {σ σ1 : Env} {H : Prop} (h : (evK (VCall P) ps ks rs r O (front n c) σ).ok (fun x => (x = (none, σ1) ∧ H) ∨ x = (some r, [])))
    (h2 : H → Ends P ps rs r (rest n c) σ1) : Ends P ps rs r c σ := by
  unfold evK at h
  obtain ⟨e, σ', kn', hk, hn, hx⟩ := front_ok n c h
  cases e with
  | normal =>
    rcases hk with ⟨hk, hH⟩ | hk
    · cases hk
      obtain ⟨e2, σ2, he, h3⟩ := h2 hH
      exact ⟨e2, σ2, hn rfl e2 σ2 (.forget ks he), h3⟩
    · cases hk
  | exit id => exact hk.elim
  | ret =>
    have hx := hx (by simp)
    simp only at hk
    split at hk
    · rename_i v hv
      rcases hk with ⟨hk, _⟩ | hk
      · cases hk
      · simp only [Prod.mk.injEq, Option.some.injEq, and_true] at hk
        exact ⟨.ret, σ', hx, .inr rfl, v, hv, hk⟩
    · exact hk.elim
theorem cut_last {c : VCode} {σ : Env} (h : (evS (VCall P) ps rs r O c σ).ok (fun x => x = (some r, []))) : Ends P ps rs r c σ := by
  unfold evS at h
  obtain ⟨e, σ', kn', hx, hk⟩ := evC_ok h
  cases e with
  | normal => cases hk
  | exit id => exact hk.elim
  | ret =>
    simp only at hk
    split at hk
    · rename_i v hv
      simp only [T.ok, Prod.mk.injEq, Option.some.injEq, and_true] at hk
      exact ⟨.ret, σ', hx, .inr rfl, v, hv, hk⟩
    · exact hk.elim
theorem FnIs.call_cut {f : FuncId} {nt : Nat} {vc : VCode} (h : FnIs P f nt rs vc) {args : List AV} (ht : Ends P ps rs r vc (startEnv nt args)) (hM : r.isM = false := by rfl) : VCall P f args r := by
  obtain ⟨fn, c0, hf, hb, hc, hr, hn⟩ := h.has
  subst hn
  obtain ⟨e, σ', hrun, he, v, hv, hvr⟩ := ht
  obtain ⟨a1, a2, a3⟩ := outRs_ok hr hv
  exact vcall_of_exec (rs := fn.results.toList) hf hb hc (by simp) (by rw [a1]; exact h.len) h.enter he hrun a2 (by rw [a3]; exact hvr) hM
end
end Go.Proofs.LV
