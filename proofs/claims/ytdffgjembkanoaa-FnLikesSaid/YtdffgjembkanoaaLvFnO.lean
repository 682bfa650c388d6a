/- What is left of likenesses. -/
import Derived.Test.YtdffgjembkanoaaLvFnM
namespace Go.Proofs.LV
open Go
set_option linter.unusedVariables false
set_option linter.unusedSimpArgs false

-- FN slices_Clone___float32_float32_
/-- slices.Clone[[]float32,float32]: slots 8, results [.t 2]; calls []; names [(s, 0), (s, 1)] -/
def ps_slices_Clone___float32_float32_ : List Nat := [0, 2, 4]
def b_slices_Clone___float32_float32_ : VCode :=
  (.seq
   (.region false [
    ⟨some 2, (.nilsl (.f .f32 [])), [], none⟩])
   (.seq
    (.seq
     (.region false [
      ⟨some 3, .mv, [.t 0], none⟩,
      ⟨some 4, .isnil, [.t 3], none⟩])
     (.cond (.t 4)
      (.seq
       (.region false [
        ⟨some 2, (.nilsl (.f .f32 [])), [], none⟩])
       .ret)
      .skip))
    (.seq
     (.region false [
      ⟨some 5, (.nilsl (.f .f32 [])), [], none⟩,
      ⟨some 6, .mv, [.t 0], none⟩,
      ⟨some 7, .arr, [.t 5, .t 6], none⟩,
      ⟨some 2, .mv, [.t 7], none⟩])
     .ret)))

abbrev Is_slices_Clone___float32_float32_ (P : Program) (g_f : FuncId) : Prop := FnIs P g_f 8 [.t 2] (b_slices_Clone___float32_float32_)

abbrev C_slices_Clone___float32_float32_ (P : Program) (g_f : FuncId) : Prop := ∀ (xs : List Nat) (hn : 1 ≤ xs.length) (hx : xs.length ≤ 5000), VCall P g_f [PS [0] .f32 xs] (OS 0 .f32 xs)
def oc1_slices_Clone___float32_float32_ (as : List AV) : T AV := match as with | [.sl _ _ (.f .f32 xs)] => .leaf (OS 0 .f32 xs) | _ => .fail



theorem q_slices_Clone___float32_float32_ {P : Program} {g_f : FuncId} (h_ : Is_slices_Clone___float32_float32_ P g_f) (xs : List Nat) (ht : T.ok (fun x_ => x_ = OS 0 .f32 xs) (
      T.ob (1 ≤ List.length xs) (T.ite false (T.leaf (AV.sl (Tag.own 0) 0 (Cont.f FloatKind.f32 []))) (T.ob (List.length xs ≤ 4294967296) (T.leaf (AV.sl (Tag.own 0) 0 (Cont.f FloatKind.f32 xs))))))) :
    VCall P g_f [PS [0] .f32 xs] (OS 0 .f32 xs) := h_.call_of ps_slices_Clone___float32_float32_ ⟨fun _ _ => .fail, fun _ _ => none⟩ (by kernel_rfl) ht

-- END slices_Clone___float32_float32_

theorem k_slices_Clone___float32_float32_ {P : Program} {f : FuncId} (h : Is_slices_Clone___float32_float32_ P f) : C_slices_Clone___float32_float32_ P f := by
  intro xs hn hx
  refine q_slices_Clone___float32_float32_ h xs ?_
  repeat' (first | with_reducible refine T.ok_ob ?_ (fun _ => ?_) | with_reducible refine T.ok_ite (fun _ => ?_) (fun _ => ?_) | with_reducible refine T.ok_leaf ?_)
  all_goals first | with_reducible rfl | with_reducible assumption | contradiction | exact fconvOk_32_64 _ | assumption | exact rfl | (simp_all []; done) | (simp_all [T.ok]; omega)

/-! ### what is left of a likeness -/
def plUp (r q : List Nat) (k : Nat) : Nat := accN (fun j s => fadd .f32 s (fmul .f32 (q.getD j 0) (r.getD (k - (j + 1)) 0))) (k - 1) 0
def plDown (r q : List Nat) (k : Nat) : Nat := accN (fun j s => fadd .f32 s (fmul .f32 (q.getD j 0) (r.getD (j + 1) 0))) (k - 1) 0
def plBot (r q : List Nat) (k : Nat) : Nat := fsub .f32 1065353216 (plDown r q k)
def plX (r q : List Nat) (k : Nat) : Nat := fdiv .f32 (fsub .f32 (r.getD k 0) (plUp r q k)) (plBot r q k)
def upP (r p : List Nat) (k : Nat) : Nat := accN (fun j s => fadd .f32 s (fmul .f32 (p.getD (j + 1) 0) (r.getD (k - (j + 1)) 0))) (k - 1) 0
def dnP (r p : List Nat) (k : Nat) : Nat := accN (fun j s => fadd .f32 s (fmul .f32 (p.getD (j + 1) 0) (r.getD (j + 1) 0))) (k - 1) 0
def xP (r p : List Nat) (k : Nat) : Nat := fdiv .f32 (fsub .f32 (r.getD k 0) (upP r p k)) (fsub .f32 1065353216 (dnP r p k))
def plQ (r : List Nat) : Nat → List Nat
  | 0 => []
  | k + 1 => (tab k fun j => fsub .f32 ((plQ r k).getD j 0) (fmul .f32 (plX r (plQ r k) (k + 1)) ((plQ r k).getD (k - 1 - j) 0))) ++ [plX r (plQ r k) (k + 1)]
def plM (r : List Nat) (m : Nat) : List Nat := tab m fun k => plX r (plQ r k) (k + 1)
def plFin (r : List Nat) (m : Nat) : Bool := allN m fun k => !feq .f32 (plBot r (plQ r k) (k + 1)) 0
def plOk (a : List Nat) (most : Int) : Bool := likesOk a most && (plFin (likesM a most.toNat) most.toNat && finAllM (plM (likesM a most.toNat) most.toNat))

-- FN impl_PartLikes
/-- impl.PartLikes: slots 108, results [.t 4, .t 5]; calls [20:g_impl_SelfLikes, 74:g_slices_Clone___float32_float32_, 105:g_impl_ifAll]; names [(a, 0), (most, 1), (a, 2), (most, 3), (r, 6), (ok, 7), (out, 8), (p, 9), (k, 10), (up, 11), (down, 12), (i, 13), (x, 14), (old, 15), (i, 16)] -/
def ps_impl_PartLikes : List Nat := [0, 1, 4, 5, 6, 7, 8, 9, 10, 11, 12, 13, 14, 15, 16, 24, 29, 34, 63, 77]
def lv_impl_PartLikes_L0 : List Nat := [1, 6, 8, 9, 10]
def lv_impl_PartLikes_L2 : List Nat := [1, 6, 8, 9, 10, 11, 12, 13]
def lv_impl_PartLikes_L4 : List Nat := [1, 6, 8, 9, 10, 14, 15, 16]
def b_impl_PartLikes_L2 (g_impl_SelfLikes g_slices_Clone___float32_float32_ g_impl_ifAll : FuncId) : VCode :=
  (.seq
   (.seq
    (.region false [
     ⟨some 32, .mv, [.t 13], none⟩,
     ⟨some 33, .mv, [.t 10], none⟩,
     ⟨some 34, (.bin .lss), [.t 32, .t 33], none⟩])
    (.cond (.t 34)
     .skip
     (.exit 2)))
   (.seq
    (.block 3
     (.seq
      (.region true [
       ⟨some 37, .mv, [.t 11], none⟩,
       ⟨some 38, .mv, [.t 9], none⟩,
       ⟨some 39, .mv, [.t 13], none⟩,
       ⟨some 40, .iaddr, [.t 38, .t 39], none⟩,
       ⟨some 41, .load, [.t 40], none⟩,
       ⟨some 42, .mv, [.t 6], none⟩,
       ⟨some 43, .mv, [.t 10], none⟩,
       ⟨some 44, .mv, [.t 13], none⟩,
       ⟨some 45, (.bin .sub), [.t 43, .t 44], none⟩,
       ⟨some 46, .iaddr, [.t 42, .t 45], none⟩,
       ⟨some 47, .load, [.t 46], none⟩,
       ⟨some 48, (.bin .mul), [.t 41, .t 47], none⟩,
       ⟨some 49, (.bin .add), [.t 37, .t 48], none⟩,
       ⟨some 11, .mv, [.t 49], none⟩])
      (.region true [
       ⟨some 50, .mv, [.t 12], none⟩,
       ⟨some 51, .mv, [.t 9], none⟩,
       ⟨some 52, .mv, [.t 13], none⟩,
       ⟨some 53, .iaddr, [.t 51, .t 52], none⟩,
       ⟨some 54, .load, [.t 53], none⟩,
       ⟨some 55, .mv, [.t 6], none⟩,
       ⟨some 56, .mv, [.t 13], none⟩,
       ⟨some 57, .iaddr, [.t 55, .t 56], none⟩,
       ⟨some 58, .load, [.t 57], none⟩,
       ⟨some 59, (.bin .mul), [.t 54, .t 58], none⟩,
       ⟨some 60, (.bin .add), [.t 50, .t 59], none⟩,
       ⟨some 12, .mv, [.t 60], none⟩])))
    (.region false [
     ⟨some 35, .mv, [.t 13], none⟩,
     ⟨some 36, (.bin .add), [.t 35, .k (.i .i64 1)], none⟩,
     ⟨some 13, .mv, [.t 36], none⟩])))

def b_impl_PartLikes_L4 (g_impl_SelfLikes g_slices_Clone___float32_float32_ g_impl_ifAll : FuncId) : VCode :=
  (.seq
   (.seq
    (.region false [
     ⟨some 75, .mv, [.t 16], none⟩,
     ⟨some 76, .mv, [.t 10], none⟩,
     ⟨some 77, (.bin .lss), [.t 75, .t 76], none⟩])
    (.cond (.t 77)
     .skip
     (.exit 4)))
   (.seq
    (.block 5
     (.region true [
      ⟨some 80, .mv, [.t 9], none⟩,
      ⟨some 81, .mv, [.t 16], none⟩,
      ⟨some 82, .mv, [.t 15], none⟩,
      ⟨some 83, .mv, [.t 16], none⟩,
      ⟨some 84, .iaddr, [.t 82, .t 83], none⟩,
      ⟨some 85, .load, [.t 84], none⟩,
      ⟨some 86, .mv, [.t 14], none⟩,
      ⟨some 87, .mv, [.t 15], none⟩,
      ⟨some 88, .mv, [.t 10], none⟩,
      ⟨some 89, .mv, [.t 16], none⟩,
      ⟨some 90, (.bin .sub), [.t 88, .t 89], none⟩,
      ⟨some 91, .iaddr, [.t 87, .t 90], none⟩,
      ⟨some 92, .load, [.t 91], none⟩,
      ⟨some 93, (.bin .mul), [.t 86, .t 92], none⟩,
      ⟨some 94, (.bin .sub), [.t 85, .t 93], none⟩,
      ⟨some 95, .iaddr, [.t 80, .t 81], none⟩,
      ⟨none, .store, [.t 95, .t 94], none⟩]))
    (.region false [
     ⟨some 78, .mv, [.t 16], none⟩,
     ⟨some 79, (.bin .add), [.t 78, .k (.i .i64 1)], none⟩,
     ⟨some 16, .mv, [.t 79], none⟩])))

def b_impl_PartLikes_L0 (g_impl_SelfLikes g_slices_Clone___float32_float32_ g_impl_ifAll : FuncId) : VCode :=
  (.seq
   (.seq
    (.region false [
     ⟨some 27, .mv, [.t 10], none⟩,
     ⟨some 28, .mv, [.t 1], none⟩,
     ⟨some 29, (.bin .leq), [.t 27, .t 28], none⟩])
    (.cond (.t 29)
     .skip
     (.exit 0)))
   (.seq
    (.block 1
     (.seq
      (.region false [
       ⟨some 11, .mv, [.k (.f .f32 0)], none⟩,
       ⟨some 12, .mv, [.k (.f .f32 0)], none⟩])
      (.seq
       (.seq
        (.region false [
         ⟨some 13, .mv, [.k (.i .i64 1)], none⟩])
        (.block 2 (.loop (b_impl_PartLikes_L2 g_impl_SelfLikes g_slices_Clone___float32_float32_ g_impl_ifAll))))
       (.seq
        (.seq
         (.region false [
          ⟨some 61, .mv, [.t 12], none⟩,
          ⟨some 62, (.bin .sub), [.k (.f .f32 1065353216), .t 61], none⟩,
          ⟨some 63, (.bin .eql), [.t 62, .k (.f .f32 0)], none⟩])
         (.cond (.t 63)
          (.seq
           (.region false [
            ⟨some 4, (.nilsl (.f .f32 [])), [], none⟩,
            ⟨some 5, .mv, [.k (.b false)], none⟩])
           .ret)
          .skip))
        (.seq
         (.region false [
          ⟨some 64, .mv, [.t 6], none⟩,
          ⟨some 65, .mv, [.t 10], none⟩,
          ⟨some 66, .iaddr, [.t 64, .t 65], none⟩,
          ⟨some 67, .load, [.t 66], none⟩,
          ⟨some 68, .mv, [.t 11], none⟩,
          ⟨some 69, (.bin .sub), [.t 67, .t 68], none⟩,
          ⟨some 70, .mv, [.t 12], none⟩,
          ⟨some 71, (.bin .sub), [.k (.f .f32 1065353216), .t 70], none⟩,
          ⟨some 72, (.bin .quo), [.t 69, .t 71], none⟩,
          ⟨some 14, .mv, [.t 72], none⟩])
         (.seq
          (.region false [
           ⟨some 73, .mv, [.t 9], none⟩,
           ⟨some 74, (.call g_slices_Clone___float32_float32_), [.t 73], none⟩,
           ⟨some 15, .mv, [.t 74], none⟩])
          (.seq
           (.seq
            (.region false [
             ⟨some 16, .mv, [.k (.i .i64 1)], none⟩])
            (.block 4 (.loop (b_impl_PartLikes_L4 g_impl_SelfLikes g_slices_Clone___float32_float32_ g_impl_ifAll))))
           (.seq
            (.region false [
             ⟨some 96, .mv, [.t 9], none⟩,
             ⟨some 97, .mv, [.t 14], none⟩,
             ⟨some 98, (.lit true (.f .f32 [])), [.t 97], none⟩,
             ⟨some 99, .app, [.t 96, .t 98], none⟩,
             ⟨some 9, .mv, [.t 99], none⟩])
            (.region false [
             ⟨some 100, .mv, [.t 8], none⟩,
             ⟨some 101, .mv, [.t 14], none⟩,
             ⟨some 102, (.lit true (.f .f32 [])), [.t 101], none⟩,
             ⟨some 103, .app, [.t 100, .t 102], none⟩,
             ⟨some 8, .mv, [.t 103], none⟩])))))))))
    (.region false [
     ⟨some 30, .mv, [.t 10], none⟩,
     ⟨some 31, (.bin .add), [.t 30, .k (.i .i64 1)], none⟩,
     ⟨some 10, .mv, [.t 31], none⟩])))

def b_impl_PartLikes (g_impl_SelfLikes g_slices_Clone___float32_float32_ g_impl_ifAll : FuncId) : VCode :=
  (.seq
   (.region false [
    ⟨some 4, (.nilsl (.f .f32 [])), [], none⟩,
    ⟨some 5, .mv, [.k (.b false)], none⟩])
   (.seq
    (.region false [
     ⟨some 18, .mv, [.t 0], none⟩,
     ⟨some 19, .mv, [.t 1], none⟩,
     ⟨some 20, (.call g_impl_SelfLikes), [.t 18, .t 19], none⟩,
     ⟨some 17, .mv, [.t 20], none⟩,
     ⟨some 21, (.extract 0), [.t 17], none⟩,
     ⟨some 22, (.extract 1), [.t 17], none⟩,
     ⟨some 6, .mv, [.t 21], none⟩,
     ⟨some 7, .mv, [.t 22], none⟩])
    (.seq
     (.seq
      (.region false [
       ⟨some 23, .mv, [.t 7], none⟩,
       ⟨some 24, .not, [.t 23], none⟩])
      (.cond (.t 24)
       (.seq
        (.region false [
         ⟨some 4, (.nilsl (.f .f32 [])), [], none⟩,
         ⟨some 5, .mv, [.k (.b false)], none⟩])
        .ret)
       .skip))
     (.seq
      (.region false [
       ⟨some 25, (.lit true (.f .f32 [])), [], none⟩,
       ⟨some 26, (.lit true (.f .f32 [])), [.k (.f .f32 0)], none⟩,
       ⟨some 8, .mv, [.t 25], none⟩,
       ⟨some 9, .mv, [.t 26], none⟩])
      (.seq
       (.seq
        (.region false [
         ⟨some 10, .mv, [.k (.i .i64 1)], none⟩])
        (.block 0 (.loop (b_impl_PartLikes_L0 g_impl_SelfLikes g_slices_Clone___float32_float32_ g_impl_ifAll))))
       (.seq
        (.region false [
         ⟨some 104, .mv, [.t 8], none⟩,
         ⟨some 105, (.call g_impl_ifAll), [.t 104], none⟩,
         ⟨some 106, (.extract 0), [.t 105], none⟩,
         ⟨some 107, (.extract 1), [.t 105], none⟩,
         ⟨some 4, .mv, [.t 106], none⟩,
         ⟨some 5, .mv, [.t 107], none⟩])
        .ret))))))

abbrev Is_impl_PartLikes (P : Program) (g_f : FuncId) (g_impl_SelfLikes g_slices_Clone___float32_float32_ g_impl_ifAll : FuncId) : Prop := FnIs P g_f 108 [.t 4, .t 5] (b_impl_PartLikes g_impl_SelfLikes g_slices_Clone___float32_float32_ g_impl_ifAll)

abbrev C_impl_PartLikes (P : Program) (g_f : FuncId) : Prop := ∀ (a : List Nat) (most : Int) (hx : a.length ≤ maxLen), VCall P g_f [PS [0] .f32 a, .i .i64 most] (.tup [OS 0 .f32 (if plOk a most = true then plM (likesM a most.toNat) most.toNat else []), .b (plOk a most)])
def oc1_impl_PartLikes (as : List AV) : T AV := match as with | [.sl _ _ (.f .f32 a), .i .i64 most] => .leaf (.tup [OS 0 .f32 (if plOk a most = true then plM (likesM a most.toNat) most.toNat else []), .b (plOk a most)]) | _ => .fail
def oc_impl_PartLikes (a : List Nat) (most : Int) (d : Nat) (as : List AV) : T AV := match d with | 20 => oc1_impl_SelfLikes as | 74 => oc1_slices_Clone___float32_float32_ as | 105 => oc1_impl_ifAll as | _ => .fail
def h_impl_PartLikes_L0 (a : List Nat) (most : Int) (r : List Nat) (out : List Nat) (p : List Nat) (k : Int) : Env := [.any, AV.i IntKind.i64 most] ++ anys 4 ++ [.sl (Tag.own 160) 0 (.f FloatKind.f32 r), .any, .sl (Tag.own 200) 0 (.f FloatKind.f32 out), .sl (Tag.own 208) 0 (.f FloatKind.f32 p), .i IntKind.i64 k] ++ anys 97
def h_impl_PartLikes_L2 (a : List Nat) (most : Int) (r : List Nat) (out : List Nat) (p : List Nat) (k : Int) (up : Nat) (down : Nat) (i : Int) : Env := [.any, AV.i IntKind.i64 most] ++ anys 4 ++ [AV.sl (Tag.own 160) 0 (Cont.f FloatKind.f32 r), .any, AV.sl (Tag.own 200) 0 (Cont.f FloatKind.f32 out), AV.sl (Tag.own 208) 0 (Cont.f FloatKind.f32 p), AV.i IntKind.i64 k, .f FloatKind.f32 up, .f FloatKind.f32 down, .i IntKind.i64 i] ++ anys 94
def h_impl_PartLikes_L4 (a : List Nat) (most : Int) (r : List Nat) (out : List Nat) (p : List Nat) (k : Int) (r2 : List Nat) (out2 : List Nat) (p2 : List Nat) (old : List Nat) (i : Int) : Env := [.any, AV.i IntKind.i64 most] ++ anys 4 ++ [.sl (Tag.own 160) 0 (.f FloatKind.f32 r2), .any, .sl (Tag.own 200) 0 (.f FloatKind.f32 out2), .sl (Tag.own 208) 0 (.f FloatKind.f32 p2), AV.i IntKind.i64 k, .any, .any, .any, AV.f FloatKind.f32 (fdiv FloatKind.f32 (fsub FloatKind.f32 (List.getD r (Int.toNat k) 0) (upP r p (Int.toNat k))) (fsub FloatKind.f32 1065353216 (dnP r p (Int.toNat k)))), .sl (Tag.own 592) 0 (.f FloatKind.f32 old), .i IntKind.i64 i] ++ anys 91

theorem q_impl_PartLikes_L0 {VC : FuncId → List AV → AV → Prop} {g_impl_SelfLikes g_slices_Clone___float32_float32_ g_impl_ifAll : FuncId} (a : List Nat) (most : Int) (r : List Nat) (out : List Nat) (p : List Nat) (k : Int) {e_ : Ex} {σ_ : Env} (ht : T.ok (fun x_ => x_ = (e_, σ_)) (
      T.ite (decide (k ≤ most))
        (T.ob
          (Exec VC ps_impl_PartLikes (VCode.block 2 (VCode.loop (b_impl_PartLikes_L2 g_impl_SelfLikes g_slices_Clone___float32_float32_ g_impl_ifAll))) (h_impl_PartLikes_L2 a most r out p k 0 0 1) Ex.normal
            (h_impl_PartLikes_L2 a most r out p k (upP r p (Int.toNat k)) (dnP r p (Int.toNat k)) k))
          (T.ite (feq FloatKind.f32 (fsub FloatKind.f32 1065353216 (dnP r p (Int.toNat k))) 0) (T.leaf (Ex.ret, anys 4 ++ AV.sl Tag.nil 0 (Cont.f FloatKind.f32 []) :: AV.b false :: anys 102))
            (T.ob (0 ≤ k ∧ k < (↑(List.length r) : Int))
              (T.ob True
                (T.ob (VC g_slices_Clone___float32_float32_ [AV.sl (Tag.par [0]) 0 (Cont.f FloatKind.f32 p)] (AV.sl (Tag.own 0) 0 (Cont.f FloatKind.f32 p)))
                  (T.ob
                    (Exec VC ps_impl_PartLikes (VCode.block 4 (VCode.loop (b_impl_PartLikes_L4 g_impl_SelfLikes g_slices_Clone___float32_float32_ g_impl_ifAll))) (h_impl_PartLikes_L4 a most r out p k r out p p 1) Ex.normal
                      (h_impl_PartLikes_L4 a most r out p k r out
                        (List.take 1 p ++ tab (Int.toNat k - 1) fun (j : Nat) => fsub FloatKind.f32 (List.getD p (j + 1) 0) (fmul FloatKind.f32 (xP r p (Int.toNat k)) (List.getD p (Int.toNat k - 1 - j) 0))) p k))
                    (T.ob
                      (List.length (List.take 1 p ++ tab (Int.toNat k - 1) fun (j : Nat) => fsub FloatKind.f32 (List.getD p (j + 1) 0) (fmul FloatKind.f32 (xP r p (Int.toNat k)) (List.getD p (Int.toNat k - 1 - j) 0))) +
                          List.length [fdiv FloatKind.f32 (fsub FloatKind.f32 (List.getD r (Int.toNat k) 0) (upP r p (Int.toNat k))) (fsub FloatKind.f32 1065353216 (dnP r p (Int.toNat k)))] ≤
                        4294967296)
                      (T.ob (List.length out + List.length [fdiv FloatKind.f32 (fsub FloatKind.f32 (List.getD r (Int.toNat k) 0) (upP r p (Int.toNat k))) (fsub FloatKind.f32 1065353216 (dnP r p (Int.toNat k)))] ≤ 4294967296)
                        (T.leaf
                          (Ex.normal,
                            h_impl_PartLikes_L0 a most r (out ++ [fdiv FloatKind.f32 (fsub FloatKind.f32 (List.getD r (Int.toNat k) 0) (upP r p (Int.toNat k))) (fsub FloatKind.f32 1065353216 (dnP r p (Int.toNat k)))])
                              ((List.take 1 p ++ tab (Int.toNat k - 1) fun (j : Nat) => fsub FloatKind.f32 (List.getD p (j + 1) 0) (fmul FloatKind.f32 (xP r p (Int.toNat k)) (List.getD p (Int.toNat k - 1 - j) 0))) ++
                                [fdiv FloatKind.f32 (fsub FloatKind.f32 (List.getD r (Int.toNat k) 0) (upP r p (Int.toNat k))) (fsub FloatKind.f32 1065353216 (dnP r p (Int.toNat k)))])
                              (IntKind.wrap IntKind.i64 (k + 1))))))))))))
        (T.leaf (Ex.exit 0, h_impl_PartLikes_L0 a most r out p k)))) :
    Exec VC ps_impl_PartLikes (b_impl_PartLikes_L0 g_impl_SelfLikes g_slices_Clone___float32_float32_ g_impl_ifAll) (h_impl_PartLikes_L0 a most r out p k) e_ σ_ := evL_of (lv := lv_impl_PartLikes_L0) (rs := [4, 5]) (O := ⟨oc_impl_PartLikes a most, fun id σ => match id with | 2 => some (lv_impl_PartLikes_L2, .leaf (.normal, h_impl_PartLikes_L2 a most r out p k (upP r p k.toNat) (dnP r p k.toNat) k)) | 4 => some (lv_impl_PartLikes_L4, .leaf (.normal, h_impl_PartLikes_L4 a most r out p k r out (p.take 1 ++ tab (k.toNat - 1) fun j => fsub .f32 (p.getD (j + 1) 0) (fmul .f32 (xP r p k.toNat) (p.getD (k.toNat - 1 - j) 0))) p k)) | _ => none⟩) (by kernel_rfl) ht

theorem q_impl_PartLikes_L2 {VC : FuncId → List AV → AV → Prop} {g_impl_SelfLikes g_slices_Clone___float32_float32_ g_impl_ifAll : FuncId} (a : List Nat) (most : Int) (r : List Nat) (out : List Nat) (p : List Nat) (k : Int) (up : Nat) (down : Nat) (i : Int) {e_ : Ex} {σ_ : Env} (ht : T.ok (fun x_ => x_ = (e_, σ_)) (
      T.ite (decide (i < k))
        (T.ob (0 ≤ i ∧ i < (↑(List.length p) : Int))
          (T.ob (0 ≤ IntKind.wrap IntKind.i64 (k - i) ∧ IntKind.wrap IntKind.i64 (k - i) < (↑(List.length r) : Int))
            (T.ob (0 ≤ i ∧ i < (↑(List.length p) : Int))
              (T.ob (0 ≤ i ∧ i < (↑(List.length r) : Int))
                (T.leaf
                  (Ex.normal,
                    h_impl_PartLikes_L2 a most r out p k (fadd FloatKind.f32 up (fmul FloatKind.f32 (List.getD p (Int.toNat i) 0) (List.getD r (Int.toNat (IntKind.wrap IntKind.i64 (k - i))) 0)))
                      (fadd FloatKind.f32 down (fmul FloatKind.f32 (List.getD p (Int.toNat i) 0) (List.getD r (Int.toNat i) 0))) (IntKind.wrap IntKind.i64 (i + 1))))))))
        (T.leaf (Ex.exit 2, h_impl_PartLikes_L2 a most r out p k up down i)))) :
    Exec VC ps_impl_PartLikes (b_impl_PartLikes_L2 g_impl_SelfLikes g_slices_Clone___float32_float32_ g_impl_ifAll) (h_impl_PartLikes_L2 a most r out p k up down i) e_ σ_ := evL_of (lv := lv_impl_PartLikes_L2) (rs := [4, 5]) (O := ⟨oc_impl_PartLikes a most, fun _ _ => none⟩) (by kernel_rfl) ht

theorem q_impl_PartLikes_L4 {VC : FuncId → List AV → AV → Prop} {g_impl_SelfLikes g_slices_Clone___float32_float32_ g_impl_ifAll : FuncId} (a : List Nat) (most : Int) (r : List Nat) (out : List Nat) (p : List Nat) (k : Int) (r2 : List Nat) (out2 : List Nat) (p2 : List Nat) (old : List Nat) (i : Int) {e_ : Ex} {σ_ : Env} (ht : T.ok (fun x_ => x_ = (e_, σ_)) (
      T.ite (decide (i < k))
        (T.ob (0 ≤ i ∧ i < (↑(List.length old) : Int))
          (T.ob (0 ≤ IntKind.wrap IntKind.i64 (k - i) ∧ IntKind.wrap IntKind.i64 (k - i) < (↑(List.length old) : Int))
            (T.ob (0 ≤ i ∧ i < (↑(List.length p2) : Int))
              (T.ob (false = false)
                (T.leaf
                  (Ex.normal,
                    h_impl_PartLikes_L4 a most r out p k r2 out2
                      (List.set p2 (0 + Int.toNat i - 0)
                        (fsub FloatKind.f32 (List.getD old (Int.toNat i) 0)
                          (fmul FloatKind.f32 (fdiv FloatKind.f32 (fsub FloatKind.f32 (List.getD r (Int.toNat k) 0) (upP r p (Int.toNat k))) (fsub FloatKind.f32 1065353216 (dnP r p (Int.toNat k))))
                            (List.getD old (Int.toNat (IntKind.wrap IntKind.i64 (k - i))) 0))))
                      old (IntKind.wrap IntKind.i64 (i + 1))))))))
        (T.leaf (Ex.exit 4, h_impl_PartLikes_L4 a most r out p k r2 out2 p2 old i)))) :
    Exec VC ps_impl_PartLikes (b_impl_PartLikes_L4 g_impl_SelfLikes g_slices_Clone___float32_float32_ g_impl_ifAll) (h_impl_PartLikes_L4 a most r out p k r2 out2 p2 old i) e_ σ_ := evL_of (lv := lv_impl_PartLikes_L4) (rs := [4, 5]) (O := ⟨oc_impl_PartLikes a most, fun _ _ => none⟩) (by kernel_rfl) ht

theorem q_impl_PartLikes {P : Program} {g_f : FuncId} {g_impl_SelfLikes g_slices_Clone___float32_float32_ g_impl_ifAll : FuncId} (h_ : Is_impl_PartLikes P g_f g_impl_SelfLikes g_slices_Clone___float32_float32_ g_impl_ifAll) (a : List Nat) (most : Int) (ht : T.ok (fun x_ => x_ = .tup [OS 0 .f32 (if plOk a most = true then plM (likesM a most.toNat) most.toNat else []), .b (plOk a most)]) (
      T.ob ((VCall P) g_impl_SelfLikes [AV.sl (Tag.par [0]) 0 (Cont.f FloatKind.f32 a), AV.i IntKind.i64 most] (AV.tup [AV.sl (Tag.own 0) 0 (Cont.f FloatKind.f32 (likesOut a most)), AV.b (likesOk a most)]))
        (T.ite (!likesOk a most) (T.leaf (AV.tup [AV.sl (Tag.own 0) 0 (Cont.f FloatKind.f32 []), AV.b false]))
          (T.ite (plFin (likesM a (Int.toNat most)) (Int.toNat most))
            (T.ob
              (Exec (VCall P) ps_impl_PartLikes (VCode.block 0 (VCode.loop (b_impl_PartLikes_L0 g_impl_SelfLikes g_slices_Clone___float32_float32_ g_impl_ifAll))) (h_impl_PartLikes_L0 a most (likesOut a most) [] [0] 1) Ex.normal
                (h_impl_PartLikes_L0 a most (likesM a (Int.toNat most)) (plM (likesM a (Int.toNat most)) (Int.toNat most)) (0 :: plQ (likesM a (Int.toNat most)) (Int.toNat most)) (most + 1)))
              (T.ob
                ((VCall P) g_impl_ifAll [AV.sl (Tag.par [0]) 0 (Cont.f FloatKind.f32 (plM (likesM a (Int.toNat most)) (Int.toNat most)))]
                  (AV.tup [AV.sl (Tag.par [0]) 0 (Cont.f FloatKind.f32 (ifAllM (plM (likesM a (Int.toNat most)) (Int.toNat most)))), AV.b (finAllM (plM (likesM a (Int.toNat most)) (Int.toNat most)))]))
                (T.leaf (AV.tup [AV.sl (Tag.own 0) 0 (Cont.f FloatKind.f32 (ifAllM (plM (likesM a (Int.toNat most)) (Int.toNat most)))), AV.b (finAllM (plM (likesM a (Int.toNat most)) (Int.toNat most)))]))))
            (T.ob
              (Exec (VCall P) ps_impl_PartLikes (VCode.block 0 (VCode.loop (b_impl_PartLikes_L0 g_impl_SelfLikes g_slices_Clone___float32_float32_ g_impl_ifAll))) (h_impl_PartLikes_L0 a most (likesOut a most) [] [0] 1) Ex.ret
                (anys 4 ++ AV.sl Tag.nil 0 (Cont.f FloatKind.f32 []) :: AV.b false :: anys 102))
              (T.leaf (AV.tup [AV.sl (Tag.own 0) 0 (Cont.f FloatKind.f32 []), AV.b false]))))))) :
    VCall P g_f [PS [0] .f32 a, .i .i64 most] (.tup [OS 0 .f32 (if plOk a most = true then plM (likesM a most.toNat) most.toNat else []), .b (plOk a most)]) := h_.call_of ps_impl_PartLikes ⟨oc_impl_PartLikes a most, fun id σ => match id with | 0 => some (lv_impl_PartLikes_L0, .ite (plFin (likesM a most.toNat) most.toNat) (.leaf (.normal, h_impl_PartLikes_L0 a most (likesM a most.toNat) (plM (likesM a most.toNat) most.toNat) (0 :: plQ (likesM a most.toNat) most.toNat) (most + 1))) (.leaf (.ret, anys 4 ++ .sl .nil 0 (.f .f32 []) :: .b false :: anys 102))) | _ => none⟩ (by kernel_rfl) ht

-- END impl_PartLikes

-- FN spec_PartLikes
/-- spec.PartLikes: slots 114, results [.t 4, .t 5]; calls [21:g_spec_SelfLikes, 111:g_spec_l03Given]; names [(a, 0), (most, 1), (a, 2), (most, 3), (r, 6), (ok, 7), (p, 8), (out, 9), (k, 10), (up, 11), (below, 12), (sum, 13), (i, 14), (x, 15), (next, 16), (i, 17)] -/
def ps_spec_PartLikes : List Nat := [0, 1, 4, 5, 6, 7, 8, 9, 10, 11, 12, 13, 14, 15, 16, 17, 25, 30, 39, 74, 81]
def lv_spec_PartLikes_L0 : List Nat := [1, 6, 8, 9, 10]
def lv_spec_PartLikes_L2 : List Nat := [1, 6, 8, 9, 10, 11, 12, 13, 14]
def lv_spec_PartLikes_L4 : List Nat := [1, 6, 8, 9, 10, 15, 16, 17]
def b_spec_PartLikes_L2 (g_spec_SelfLikes g_spec_l03Given : FuncId) : VCode :=
  (.seq
   (.seq
    (.region false [
     ⟨some 37, .mv, [.t 14], none⟩,
     ⟨some 38, .mv, [.t 10], none⟩,
     ⟨some 39, (.bin .lss), [.t 37, .t 38], none⟩])
    (.cond (.t 39)
     .skip
     (.exit 2)))
   (.seq
    (.block 3
     (.seq
      (.region true [
       ⟨some 42, .mv, [.t 13], none⟩,
       ⟨some 43, .mv, [.t 8], none⟩,
       ⟨some 44, .mv, [.t 14], none⟩,
       ⟨some 45, (.bin .sub), [.t 44, .k (.i .i64 1)], none⟩,
       ⟨some 46, .iaddr, [.t 43, .t 45], none⟩,
       ⟨some 47, .load, [.t 46], none⟩,
       ⟨some 48, .mv, [.t 6], none⟩,
       ⟨some 49, .mv, [.t 10], none⟩,
       ⟨some 50, .mv, [.t 14], none⟩,
       ⟨some 51, (.bin .sub), [.t 49, .t 50], none⟩,
       ⟨some 52, .iaddr, [.t 48, .t 51], none⟩,
       ⟨some 53, .load, [.t 52], none⟩,
       ⟨some 54, (.bin .mul), [.t 47, .t 53], none⟩,
       ⟨some 55, (.bin .add), [.t 42, .t 54], none⟩,
       ⟨some 13, .mv, [.t 55], none⟩])
      (.region true [
       ⟨some 56, .mv, [.t 12], none⟩,
       ⟨some 57, .mv, [.t 8], none⟩,
       ⟨some 58, .mv, [.t 14], none⟩,
       ⟨some 59, (.bin .sub), [.t 58, .k (.i .i64 1)], none⟩,
       ⟨some 60, .iaddr, [.t 57, .t 59], none⟩,
       ⟨some 61, .load, [.t 60], none⟩,
       ⟨some 62, .mv, [.t 6], none⟩,
       ⟨some 63, .mv, [.t 14], none⟩,
       ⟨some 64, .iaddr, [.t 62, .t 63], none⟩,
       ⟨some 65, .load, [.t 64], none⟩,
       ⟨some 66, (.bin .mul), [.t 61, .t 65], none⟩,
       ⟨some 67, (.bin .add), [.t 56, .t 66], none⟩,
       ⟨some 12, .mv, [.t 67], none⟩])))
    (.region false [
     ⟨some 40, .mv, [.t 14], none⟩,
     ⟨some 41, (.bin .add), [.t 40, .k (.i .i64 1)], none⟩,
     ⟨some 14, .mv, [.t 41], none⟩])))

def b_spec_PartLikes_L4 (g_spec_SelfLikes g_spec_l03Given : FuncId) : VCode :=
  (.seq
   (.seq
    (.region false [
     ⟨some 79, .mv, [.t 17], none⟩,
     ⟨some 80, .mv, [.t 10], none⟩,
     ⟨some 81, (.bin .lss), [.t 79, .t 80], none⟩])
    (.cond (.t 81)
     .skip
     (.exit 4)))
   (.seq
    (.block 5
     (.region true [
      ⟨some 84, .mv, [.t 16], none⟩,
      ⟨some 85, .mv, [.t 8], none⟩,
      ⟨some 86, .mv, [.t 17], none⟩,
      ⟨some 87, (.bin .sub), [.t 86, .k (.i .i64 1)], none⟩,
      ⟨some 88, .iaddr, [.t 85, .t 87], none⟩,
      ⟨some 89, .load, [.t 88], none⟩,
      ⟨some 90, .mv, [.t 15], none⟩,
      ⟨some 91, .mv, [.t 8], none⟩,
      ⟨some 92, .mv, [.t 10], none⟩,
      ⟨some 93, .mv, [.t 17], none⟩,
      ⟨some 94, (.bin .sub), [.t 92, .t 93], none⟩,
      ⟨some 95, (.bin .sub), [.t 94, .k (.i .i64 1)], none⟩,
      ⟨some 96, .iaddr, [.t 91, .t 95], none⟩,
      ⟨some 97, .load, [.t 96], none⟩,
      ⟨some 98, (.bin .mul), [.t 90, .t 97], none⟩,
      ⟨some 99, (.bin .sub), [.t 89, .t 98], none⟩,
      ⟨some 100, (.lit true (.f .f32 [])), [.t 99], none⟩,
      ⟨some 101, .app, [.t 84, .t 100], none⟩,
      ⟨some 16, .mv, [.t 101], none⟩]))
    (.region false [
     ⟨some 82, .mv, [.t 17], none⟩,
     ⟨some 83, (.bin .add), [.t 82, .k (.i .i64 1)], none⟩,
     ⟨some 17, .mv, [.t 83], none⟩])))

def b_spec_PartLikes_L0 (g_spec_SelfLikes g_spec_l03Given : FuncId) : VCode :=
  (.seq
   (.seq
    (.region false [
     ⟨some 28, .mv, [.t 10], none⟩,
     ⟨some 29, .mv, [.t 1], none⟩,
     ⟨some 30, (.bin .leq), [.t 28, .t 29], none⟩])
    (.cond (.t 30)
     .skip
     (.exit 0)))
   (.seq
    (.block 1
     (.seq
      (.region false [
       ⟨some 33, .mv, [.t 6], none⟩,
       ⟨some 34, .mv, [.t 10], none⟩,
       ⟨some 35, .iaddr, [.t 33, .t 34], none⟩,
       ⟨some 36, .load, [.t 35], none⟩,
       ⟨some 11, .mv, [.t 36], none⟩])
      (.seq
       (.region false [
        ⟨some 12, .mv, [.k (.f .f32 0)], none⟩])
       (.seq
        (.region false [
         ⟨some 13, .mv, [.k (.f .f32 0)], none⟩])
        (.seq
         (.seq
          (.region false [
           ⟨some 14, .mv, [.k (.i .i64 1)], none⟩])
          (.block 2 (.loop (b_spec_PartLikes_L2 g_spec_SelfLikes g_spec_l03Given))))
         (.seq
          (.region false [
           ⟨some 68, .mv, [.t 11], none⟩,
           ⟨some 69, .mv, [.t 13], none⟩,
           ⟨some 70, (.bin .sub), [.t 68, .t 69], none⟩,
           ⟨some 11, .mv, [.t 70], none⟩])
          (.seq
           (.region false [
            ⟨some 71, .mv, [.t 12], none⟩,
            ⟨some 72, (.bin .sub), [.k (.f .f32 1065353216), .t 71], none⟩,
            ⟨some 12, .mv, [.t 72], none⟩])
           (.seq
            (.seq
             (.region false [
              ⟨some 73, .mv, [.t 12], none⟩,
              ⟨some 74, (.bin .eql), [.t 73, .k (.f .f32 0)], none⟩])
             (.cond (.t 74)
              (.seq
               (.region false [
                ⟨some 4, (.nilsl (.f .f32 [])), [], none⟩,
                ⟨some 5, .mv, [.k (.b false)], none⟩])
               .ret)
              .skip))
            (.seq
             (.region false [
              ⟨some 75, .mv, [.t 11], none⟩,
              ⟨some 76, .mv, [.t 12], none⟩,
              ⟨some 77, (.bin .quo), [.t 75, .t 76], none⟩,
              ⟨some 15, .mv, [.t 77], none⟩])
             (.seq
              (.region false [
               ⟨some 78, (.lit true (.f .f32 [])), [], none⟩,
               ⟨some 16, .mv, [.t 78], none⟩])
              (.seq
               (.seq
                (.region false [
                 ⟨some 17, .mv, [.k (.i .i64 1)], none⟩])
                (.block 4 (.loop (b_spec_PartLikes_L4 g_spec_SelfLikes g_spec_l03Given))))
               (.seq
                (.region false [
                 ⟨some 102, .mv, [.t 16], none⟩,
                 ⟨some 103, .mv, [.t 15], none⟩,
                 ⟨some 104, (.lit true (.f .f32 [])), [.t 103], none⟩,
                 ⟨some 105, .app, [.t 102, .t 104], none⟩,
                 ⟨some 8, .mv, [.t 105], none⟩])
                (.region false [
                 ⟨some 106, .mv, [.t 9], none⟩,
                 ⟨some 107, .mv, [.t 15], none⟩,
                 ⟨some 108, (.lit true (.f .f32 [])), [.t 107], none⟩,
                 ⟨some 109, .app, [.t 106, .t 108], none⟩,
                 ⟨some 9, .mv, [.t 109], none⟩])))))))))))))
    (.region false [
     ⟨some 31, .mv, [.t 10], none⟩,
     ⟨some 32, (.bin .add), [.t 31, .k (.i .i64 1)], none⟩,
     ⟨some 10, .mv, [.t 32], none⟩])))

def b_spec_PartLikes (g_spec_SelfLikes g_spec_l03Given : FuncId) : VCode :=
  (.seq
   (.region false [
    ⟨some 4, (.nilsl (.f .f32 [])), [], none⟩,
    ⟨some 5, .mv, [.k (.b false)], none⟩])
   (.seq
    (.region false [
     ⟨some 19, .mv, [.t 0], none⟩,
     ⟨some 20, .mv, [.t 1], none⟩,
     ⟨some 21, (.call g_spec_SelfLikes), [.t 19, .t 20], none⟩,
     ⟨some 18, .mv, [.t 21], none⟩,
     ⟨some 22, (.extract 0), [.t 18], none⟩,
     ⟨some 23, (.extract 1), [.t 18], none⟩,
     ⟨some 6, .mv, [.t 22], none⟩,
     ⟨some 7, .mv, [.t 23], none⟩])
    (.seq
     (.seq
      (.region false [
       ⟨some 24, .mv, [.t 7], none⟩,
       ⟨some 25, .not, [.t 24], none⟩])
      (.cond (.t 25)
       (.seq
        (.region false [
         ⟨some 4, (.nilsl (.f .f32 [])), [], none⟩,
         ⟨some 5, .mv, [.k (.b false)], none⟩])
        .ret)
       .skip))
     (.seq
      (.region false [
       ⟨some 26, (.lit true (.f .f32 [])), [], none⟩,
       ⟨some 8, .mv, [.t 26], none⟩])
      (.seq
       (.region false [
        ⟨some 27, (.lit true (.f .f32 [])), [], none⟩,
        ⟨some 9, .mv, [.t 27], none⟩])
       (.seq
        (.seq
         (.region false [
          ⟨some 10, .mv, [.k (.i .i64 1)], none⟩])
         (.block 0 (.loop (b_spec_PartLikes_L0 g_spec_SelfLikes g_spec_l03Given))))
        (.seq
         (.region false [
          ⟨some 110, .mv, [.t 9], none⟩,
          ⟨some 111, (.call g_spec_l03Given), [.t 110], none⟩,
          ⟨some 112, (.extract 0), [.t 111], none⟩,
          ⟨some 113, (.extract 1), [.t 111], none⟩,
          ⟨some 4, .mv, [.t 112], none⟩,
          ⟨some 5, .mv, [.t 113], none⟩])
         .ret)))))))

abbrev Is_spec_PartLikes (P : Program) (g_f : FuncId) (g_spec_SelfLikes g_spec_l03Given : FuncId) : Prop := FnIs P g_f 114 [.t 4, .t 5] (b_spec_PartLikes g_spec_SelfLikes g_spec_l03Given)

abbrev C_spec_PartLikes (P : Program) (g_f : FuncId) : Prop := ∀ (a : List Nat) (most : Int) (hx : a.length ≤ maxLen), VCall P g_f [PS [0] .f32 a, .i .i64 most] (.tup [OS 0 .f32 (if plOk a most = true then plM (likesM a most.toNat) most.toNat else []), .b (plOk a most)])
def oc1_spec_PartLikes (as : List AV) : T AV := match as with | [.sl _ _ (.f .f32 a), .i .i64 most] => .leaf (.tup [OS 0 .f32 (if plOk a most = true then plM (likesM a most.toNat) most.toNat else []), .b (plOk a most)]) | _ => .fail
def oc_spec_PartLikes (a : List Nat) (most : Int) (d : Nat) (as : List AV) : T AV := match d with | 21 => oc1_spec_SelfLikes as | 111 => oc1_spec_l03Given as | _ => .fail
def h_spec_PartLikes_L0 (a : List Nat) (most : Int) (r : List Nat) (p : List Nat) (out : List Nat) (k : Int) : Env := [.any, AV.i IntKind.i64 most] ++ anys 4 ++ [.sl (Tag.own 168) 0 (.f FloatKind.f32 r), .any, .sl (Tag.own 208) 0 (.f FloatKind.f32 p), .sl (Tag.own 216) 0 (.f FloatKind.f32 out), .i IntKind.i64 k] ++ anys 103
def h_spec_PartLikes_L2 (a : List Nat) (most : Int) (r : List Nat) (p : List Nat) (out : List Nat) (k : Int) (below : Nat) (sum : Nat) (i : Int) : Env := [.any, AV.i IntKind.i64 most] ++ anys 4 ++ [AV.sl (Tag.own 168) 0 (Cont.f FloatKind.f32 r), .any, AV.sl (Tag.own 208) 0 (Cont.f FloatKind.f32 p), AV.sl (Tag.own 216) 0 (Cont.f FloatKind.f32 out), AV.i IntKind.i64 k, AV.f FloatKind.f32 (List.getD r (Int.toNat k) 0), .f FloatKind.f32 below, .f FloatKind.f32 sum, .i IntKind.i64 i] ++ anys 99
def h_spec_PartLikes_L4 (a : List Nat) (most : Int) (r : List Nat) (p : List Nat) (out : List Nat) (k : Int) (r2 : List Nat) (p2 : List Nat) (out2 : List Nat) (next0 : List Nat) (i : Int) : Env := [.any, AV.i IntKind.i64 most] ++ anys 4 ++ [.sl (Tag.own 168) 0 (.f FloatKind.f32 r2), .any, .sl (Tag.own 208) 0 (.f FloatKind.f32 p2), .sl (Tag.own 216) 0 (.f FloatKind.f32 out2), AV.i IntKind.i64 k] ++ anys 4 ++ [AV.f FloatKind.f32 (fdiv FloatKind.f32 (fsub FloatKind.f32 (List.getD r (Int.toNat k) 0) (plUp r p (Int.toNat k))) (fsub FloatKind.f32 1065353216 (plDown r p (Int.toNat k)))), .sl (Tag.own 624) 0 (.f FloatKind.f32 next0), .i IntKind.i64 i] ++ anys 96

theorem q_spec_PartLikes_L0 {VC : FuncId → List AV → AV → Prop} {g_spec_SelfLikes g_spec_l03Given : FuncId} (a : List Nat) (most : Int) (r : List Nat) (p : List Nat) (out : List Nat) (k : Int) {e_ : Ex} {σ_ : Env} (ht : T.ok (fun x_ => x_ = (e_, σ_)) (
      T.ite (decide (k ≤ most))
        (T.ob (0 ≤ k ∧ k < (↑(List.length r) : Int))
          (T.ob
            (Exec VC ps_spec_PartLikes (VCode.block 2 (VCode.loop (b_spec_PartLikes_L2 g_spec_SelfLikes g_spec_l03Given))) (h_spec_PartLikes_L2 a most r p out k 0 0 1) Ex.normal
              (h_spec_PartLikes_L2 a most r p out k (plDown r p (Int.toNat k)) (plUp r p (Int.toNat k)) k))
            (T.ite (feq FloatKind.f32 (fsub FloatKind.f32 1065353216 (plDown r p (Int.toNat k))) 0) (T.leaf (Ex.ret, anys 4 ++ AV.sl Tag.nil 0 (Cont.f FloatKind.f32 []) :: AV.b false :: anys 108))
              (T.ob True
                (T.ob
                  (Exec VC ps_spec_PartLikes (VCode.block 4 (VCode.loop (b_spec_PartLikes_L4 g_spec_SelfLikes g_spec_l03Given))) (h_spec_PartLikes_L4 a most r p out k r p out [] 1) Ex.normal
                    (h_spec_PartLikes_L4 a most r p out k r p out (tab (Int.toNat k - 1) fun (j : Nat) => fsub FloatKind.f32 (List.getD p j 0) (fmul FloatKind.f32 (plX r p (Int.toNat k)) (List.getD p (Int.toNat k - 2 - j) 0)))
                      k))
                  (T.ob
                    (List.length (tab (Int.toNat k - 1) fun (j : Nat) => fsub FloatKind.f32 (List.getD p j 0) (fmul FloatKind.f32 (plX r p (Int.toNat k)) (List.getD p (Int.toNat k - 2 - j) 0))) +
                        List.length [fdiv FloatKind.f32 (fsub FloatKind.f32 (List.getD r (Int.toNat k) 0) (plUp r p (Int.toNat k))) (fsub FloatKind.f32 1065353216 (plDown r p (Int.toNat k)))] ≤
                      4294967296)
                    (T.ob (List.length out + List.length [fdiv FloatKind.f32 (fsub FloatKind.f32 (List.getD r (Int.toNat k) 0) (plUp r p (Int.toNat k))) (fsub FloatKind.f32 1065353216 (plDown r p (Int.toNat k)))] ≤ 4294967296)
                      (T.leaf
                        (Ex.normal,
                          AV.any ::
                            AV.i IntKind.i64 most ::
                              (anys 4 ++
                                AV.sl (Tag.own 168) 0 (Cont.f FloatKind.f32 r) ::
                                  AV.any ::
                                    AV.sl (Tag.own 624) 0
                                        (Cont.f FloatKind.f32
                                          ((tab (Int.toNat k - 1) fun (j : Nat) => fsub FloatKind.f32 (List.getD p j 0) (fmul FloatKind.f32 (plX r p (Int.toNat k)) (List.getD p (Int.toNat k - 2 - j) 0))) ++
                                            [fdiv FloatKind.f32 (fsub FloatKind.f32 (List.getD r (Int.toNat k) 0) (plUp r p (Int.toNat k))) (fsub FloatKind.f32 1065353216 (plDown r p (Int.toNat k)))])) ::
                                      AV.sl (Tag.own 216) 0
                                          (Cont.f FloatKind.f32
                                            (out ++ [fdiv FloatKind.f32 (fsub FloatKind.f32 (List.getD r (Int.toNat k) 0) (plUp r p (Int.toNat k))) (fsub FloatKind.f32 1065353216 (plDown r p (Int.toNat k)))])) ::
                                        AV.i IntKind.i64 (IntKind.wrap IntKind.i64 (k + 1)) :: anys 103))))))))))
        (T.leaf (Ex.exit 0, h_spec_PartLikes_L0 a most r p out k)))) :
    Exec VC ps_spec_PartLikes (b_spec_PartLikes_L0 g_spec_SelfLikes g_spec_l03Given) (h_spec_PartLikes_L0 a most r p out k) e_ σ_ := evL_of (lv := lv_spec_PartLikes_L0) (rs := [4, 5]) (O := ⟨oc_spec_PartLikes a most, fun id σ => match id with | 2 => some (lv_spec_PartLikes_L2, .leaf (.normal, h_spec_PartLikes_L2 a most r p out k (plDown r p k.toNat) (plUp r p k.toNat) k)) | 4 => some (lv_spec_PartLikes_L4, .leaf (.normal, h_spec_PartLikes_L4 a most r p out k r p out (tab (k.toNat - 1) fun j => fsub .f32 (p.getD j 0) (fmul .f32 (plX r p k.toNat) (p.getD (k.toNat - 2 - j) 0))) k)) | _ => none⟩) (by kernel_rfl) ht

theorem q_spec_PartLikes_L2 {VC : FuncId → List AV → AV → Prop} {g_spec_SelfLikes g_spec_l03Given : FuncId} (a : List Nat) (most : Int) (r : List Nat) (p : List Nat) (out : List Nat) (k : Int) (below : Nat) (sum : Nat) (i : Int) {e_ : Ex} {σ_ : Env} (ht : T.ok (fun x_ => x_ = (e_, σ_)) (
      T.ite (decide (i < k))
        (T.ob (0 ≤ IntKind.wrap IntKind.i64 (i - 1) ∧ IntKind.wrap IntKind.i64 (i - 1) < (↑(List.length p) : Int))
          (T.ob (0 ≤ IntKind.wrap IntKind.i64 (k - i) ∧ IntKind.wrap IntKind.i64 (k - i) < (↑(List.length r) : Int))
            (T.ob (0 ≤ IntKind.wrap IntKind.i64 (i - 1) ∧ IntKind.wrap IntKind.i64 (i - 1) < (↑(List.length p) : Int))
              (T.ob (0 ≤ i ∧ i < (↑(List.length r) : Int))
                (T.leaf
                  (Ex.normal,
                    h_spec_PartLikes_L2 a most r p out k (fadd FloatKind.f32 below (fmul FloatKind.f32 (List.getD p (Int.toNat (IntKind.wrap IntKind.i64 (i - 1))) 0) (List.getD r (Int.toNat i) 0)))
                      (fadd FloatKind.f32 sum (fmul FloatKind.f32 (List.getD p (Int.toNat (IntKind.wrap IntKind.i64 (i - 1))) 0) (List.getD r (Int.toNat (IntKind.wrap IntKind.i64 (k - i))) 0)))
                      (IntKind.wrap IntKind.i64 (i + 1))))))))
        (T.leaf (Ex.exit 2, h_spec_PartLikes_L2 a most r p out k below sum i)))) :
    Exec VC ps_spec_PartLikes (b_spec_PartLikes_L2 g_spec_SelfLikes g_spec_l03Given) (h_spec_PartLikes_L2 a most r p out k below sum i) e_ σ_ := evL_of (lv := lv_spec_PartLikes_L2) (rs := [4, 5]) (O := ⟨oc_spec_PartLikes a most, fun _ _ => none⟩) (by kernel_rfl) ht

theorem q_spec_PartLikes_L4 {VC : FuncId → List AV → AV → Prop} {g_spec_SelfLikes g_spec_l03Given : FuncId} (a : List Nat) (most : Int) (r : List Nat) (p : List Nat) (out : List Nat) (k : Int) (r2 : List Nat) (p2 : List Nat) (out2 : List Nat) (next0 : List Nat) (i : Int) {e_ : Ex} {σ_ : Env} (ht : T.ok (fun x_ => x_ = (e_, σ_)) (
      T.ite (decide (i < k))
        (T.ob (0 ≤ IntKind.wrap IntKind.i64 (i - 1) ∧ IntKind.wrap IntKind.i64 (i - 1) < (↑(List.length p2) : Int))
          (T.ob (0 ≤ IntKind.wrap IntKind.i64 (IntKind.wrap IntKind.i64 (k - i) - 1) ∧ IntKind.wrap IntKind.i64 (IntKind.wrap IntKind.i64 (k - i) - 1) < (↑(List.length p2) : Int))
            (T.ob
              (List.length next0 +
                  List.length
                    [fsub FloatKind.f32 (List.getD p2 (Int.toNat (IntKind.wrap IntKind.i64 (i - 1))) 0)
                        (fmul FloatKind.f32 (fdiv FloatKind.f32 (fsub FloatKind.f32 (List.getD r (Int.toNat k) 0) (plUp r p (Int.toNat k))) (fsub FloatKind.f32 1065353216 (plDown r p (Int.toNat k))))
                          (List.getD p2 (Int.toNat (IntKind.wrap IntKind.i64 (IntKind.wrap IntKind.i64 (k - i) - 1))) 0))] ≤
                4294967296)
              (T.leaf
                (Ex.normal,
                  h_spec_PartLikes_L4 a most r p out k r2 p2 out2
                    (next0 ++
                      [fsub FloatKind.f32 (List.getD p2 (Int.toNat (IntKind.wrap IntKind.i64 (i - 1))) 0)
                          (fmul FloatKind.f32 (fdiv FloatKind.f32 (fsub FloatKind.f32 (List.getD r (Int.toNat k) 0) (plUp r p (Int.toNat k))) (fsub FloatKind.f32 1065353216 (plDown r p (Int.toNat k))))
                            (List.getD p2 (Int.toNat (IntKind.wrap IntKind.i64 (IntKind.wrap IntKind.i64 (k - i) - 1))) 0))])
                    (IntKind.wrap IntKind.i64 (i + 1)))))))
        (T.leaf (Ex.exit 4, h_spec_PartLikes_L4 a most r p out k r2 p2 out2 next0 i)))) :
    Exec VC ps_spec_PartLikes (b_spec_PartLikes_L4 g_spec_SelfLikes g_spec_l03Given) (h_spec_PartLikes_L4 a most r p out k r2 p2 out2 next0 i) e_ σ_ := evL_of (lv := lv_spec_PartLikes_L4) (rs := [4, 5]) (O := ⟨oc_spec_PartLikes a most, fun _ _ => none⟩) (by kernel_rfl) ht

theorem q_spec_PartLikes {P : Program} {g_f : FuncId} {g_spec_SelfLikes g_spec_l03Given : FuncId} (h_ : Is_spec_PartLikes P g_f g_spec_SelfLikes g_spec_l03Given) (a : List Nat) (most : Int) (ht : T.ok (fun x_ => x_ = .tup [OS 0 .f32 (if plOk a most = true then plM (likesM a most.toNat) most.toNat else []), .b (plOk a most)]) (
      T.ob ((VCall P) g_spec_SelfLikes [AV.sl (Tag.par [0]) 0 (Cont.f FloatKind.f32 a), AV.i IntKind.i64 most] (AV.tup [AV.sl (Tag.own 0) 0 (Cont.f FloatKind.f32 (likesOut a most)), AV.b (likesOk a most)]))
        (T.ite (!likesOk a most) (T.leaf (AV.tup [AV.sl (Tag.own 0) 0 (Cont.f FloatKind.f32 []), AV.b false]))
          (T.ite (plFin (likesM a (Int.toNat most)) (Int.toNat most))
            (T.ob
              (Exec (VCall P) ps_spec_PartLikes (VCode.block 0 (VCode.loop (b_spec_PartLikes_L0 g_spec_SelfLikes g_spec_l03Given))) (h_spec_PartLikes_L0 a most (likesOut a most) [] [] 1) Ex.normal
                (h_spec_PartLikes_L0 a most (likesM a (Int.toNat most)) (plQ (likesM a (Int.toNat most)) (Int.toNat most)) (plM (likesM a (Int.toNat most)) (Int.toNat most)) (most + 1)))
              (T.ob
                ((VCall P) g_spec_l03Given [AV.sl (Tag.par [0]) 0 (Cont.f FloatKind.f32 (plM (likesM a (Int.toNat most)) (Int.toNat most)))]
                  (AV.tup [AV.sl (Tag.par [0]) 0 (Cont.f FloatKind.f32 (ifAllM (plM (likesM a (Int.toNat most)) (Int.toNat most)))), AV.b (finAllM (plM (likesM a (Int.toNat most)) (Int.toNat most)))]))
                (T.leaf (AV.tup [AV.sl (Tag.own 0) 0 (Cont.f FloatKind.f32 (ifAllM (plM (likesM a (Int.toNat most)) (Int.toNat most)))), AV.b (finAllM (plM (likesM a (Int.toNat most)) (Int.toNat most)))]))))
            (T.ob
              (Exec (VCall P) ps_spec_PartLikes (VCode.block 0 (VCode.loop (b_spec_PartLikes_L0 g_spec_SelfLikes g_spec_l03Given))) (h_spec_PartLikes_L0 a most (likesOut a most) [] [] 1) Ex.ret
                (anys 4 ++ AV.sl Tag.nil 0 (Cont.f FloatKind.f32 []) :: AV.b false :: anys 108))
              (T.leaf (AV.tup [AV.sl (Tag.own 0) 0 (Cont.f FloatKind.f32 []), AV.b false]))))))) :
    VCall P g_f [PS [0] .f32 a, .i .i64 most] (.tup [OS 0 .f32 (if plOk a most = true then plM (likesM a most.toNat) most.toNat else []), .b (plOk a most)]) := h_.call_of ps_spec_PartLikes ⟨oc_spec_PartLikes a most, fun id σ => match id with | 0 => some (lv_spec_PartLikes_L0, .ite (plFin (likesM a most.toNat) most.toNat) (.leaf (.normal, h_spec_PartLikes_L0 a most (likesM a most.toNat) (plQ (likesM a most.toNat) most.toNat) (plM (likesM a most.toNat) most.toNat) (most + 1))) (.leaf (.ret, anys 4 ++ .sl .nil 0 (.f .f32 []) :: .b false :: anys 108))) | _ => none⟩ (by kernel_rfl) ht

-- END spec_PartLikes

end Go.Proofs.LV
