/- Sums of harmonics at a place; series that go down to both sides. -/
import Derived.Test.YtdjjpckpcfkgiaaLvFnAA
import Derived.Test.YtdjjpckpcfkgiaaLvFnG
import Derived.Test.YtdjjpckpcfkgiaaLvFnJ
namespace Go.Proofs.LV
open Go
set_option linter.unusedVariables false
set_option linter.unusedSimpArgs false

/-- a phase -/
def wvM (g at0 : Int) (p : Nat) : Nat × Nat := phM (fdiv .f64 (fofi .f64 (g * at0)) (fconv .f32 .f64 p))
def hmL (p : Nat) (at0 : Int) : Nat → List Nat
  | 0 => [1065353216]
  | n + 1 => hmL p at0 n ++ [(wvM ((n + 1 : Nat) : Int) at0 p).1, (wvM ((n + 1 : Nat) : Int) at0 p).2]
def haV (ts : List Nat) (p : Nat) (at0 : Int) : Nat := dotM ts (hmL p at0 (ts.length / 2))
def haOk0 (ts : List Nat) (p : Nat) (at0 : Int) : Bool := decide (ts.length % 2 = 1) && (decide (ts.length ≤ 5) && (finAllM ts && ((finM p && fgt .f32 p 0) && inM at0 (-1000) 1000)))
def haOk (ts : List Nat) (p : Nat) (at0 : Int) : Bool := haOk0 ts p at0 && finM (haV ts p at0)


def absF (x : Nat) : Nat := fmax .f32 x (fneg .f32 x)
def sizF (x : Nat) : Nat := if flt .f32 x 0 = true then fneg .f32 x else x
def tpT (n i : Nat) : Nat := fdiv .f32 (fadd .f32 (fofi .f32 i) 1056964608) (fofi .f32 n)
def tpW (kind : Int) (n i : Nat) : Nat :=
  if kind = 1 then fsub .f32 1056964608 (fmul .f32 1056964608 (phM (fconv .f32 .f64 (tpT n i))).1)
  else if kind = 2 then fsub .f32 1065353216 (absF (fsub .f32 (fmul .f32 1073741824 (tpT n i)) 1065353216)) else 1065353216
def tpM (a : List Nat) (kind : Int) (n : Nat) : List Nat := tab n fun i => fmul .f32 (a.getD i 0) (tpW kind a.length i)
def tpOk (a : List Nat) (kind : Int) : Bool := (seriesM a && inM kind 0 2) && finAllM (tpM a kind a.length)

-- FN impl_absolute
/-- impl.absolute: slots 7, results [.t 2]; calls []; names [(x, 0), (x, 1)] -/
def ps_impl_absolute : List Nat := [0, 2]
def b_impl_absolute : VCode :=
  (.seq
   (.region false [
    ⟨some 2, .mv, [.k (.f .f32 0)], none⟩])
   (.seq
    (.region false [
     ⟨some 3, .mv, [.t 0], none⟩,
     ⟨some 4, .mv, [.t 0], none⟩,
     ⟨some 5, .neg, [.t 4], none⟩,
     ⟨some 6, .max, [.t 3, .t 5], none⟩,
     ⟨some 2, .mv, [.t 6], none⟩])
    .ret))

abbrev Is_impl_absolute (P : Program) (g_f : FuncId) : Prop := FnIs P g_f 7 [.t 2] (b_impl_absolute)

abbrev C_impl_absolute (P : Program) (g_f : FuncId) : Prop := ∀ (x : Nat), VCall P g_f [.f .f32 x] (.f .f32 (absF x))
def oc1_impl_absolute (as : List AV) : T AV := match as with | [.f .f32 x] => .leaf (.f .f32 (absF x)) | _ => .fail



theorem q_impl_absolute {P : Program} {g_f : FuncId} (h_ : Is_impl_absolute P g_f) (x : Nat) (ht : T.ok (fun x_ => x_ = .f .f32 (absF x)) (
      T.leaf (AV.f FloatKind.f32 (fmax FloatKind.f32 x (fneg FloatKind.f32 x))))) :
    VCall P g_f [.f .f32 x] (.f .f32 (absF x)) := h_.call_of ps_impl_absolute ⟨fun _ _ => .fail, fun _ _ => none⟩ (by kernel_rfl) ht

-- END impl_absolute
-- FN spec_l03Size
/-- spec.l03Size: slots 8, results [.t 2]; calls []; names [(x, 0), (x, 1)] -/
def ps_spec_l03Size : List Nat := [0, 2, 4]
def b_spec_l03Size : VCode :=
  (.seq
   (.region false [
    ⟨some 2, .mv, [.k (.f .f32 0)], none⟩])
   (.seq
    (.seq
     (.region false [
      ⟨some 3, .mv, [.t 0], none⟩,
      ⟨some 4, (.bin .lss), [.t 3, .k (.f .f32 0)], none⟩])
     (.cond (.t 4)
      (.seq
       (.region false [
        ⟨some 5, .mv, [.t 0], none⟩,
        ⟨some 6, .neg, [.t 5], none⟩,
        ⟨some 2, .mv, [.t 6], none⟩])
       .ret)
      .skip))
    (.seq
     (.region false [
      ⟨some 7, .mv, [.t 0], none⟩,
      ⟨some 2, .mv, [.t 7], none⟩])
     .ret)))

abbrev Is_spec_l03Size (P : Program) (g_f : FuncId) : Prop := FnIs P g_f 8 [.t 2] (b_spec_l03Size)

abbrev C_spec_l03Size (P : Program) (g_f : FuncId) : Prop := ∀ (x : Nat), VCall P g_f [.f .f32 x] (.f .f32 (sizF x))
def oc1_spec_l03Size (as : List AV) : T AV := match as with | [.f .f32 x] => .leaf (.f .f32 (sizF x)) | _ => .fail



theorem q_spec_l03Size {P : Program} {g_f : FuncId} (h_ : Is_spec_l03Size P g_f) (x : Nat) (ht : T.ok (fun x_ => x_ = .f .f32 (sizF x)) (
      T.ite (flt FloatKind.f32 x 0) (T.leaf (AV.f FloatKind.f32 (fneg FloatKind.f32 x))) (T.leaf (AV.f FloatKind.f32 x)))) :
    VCall P g_f [.f .f32 x] (.f .f32 (sizF x)) := h_.call_of ps_spec_l03Size ⟨fun _ _ => .fail, fun _ _ => none⟩ (by kernel_rfl) ht

-- END spec_l03Size
-- FN impl_Tapered
/-- impl.Tapered: slots 61, results [.t 4, .t 5]; calls [12:g_impl_IsSeries, 16:g_impl_within, 39:g_impl_PhasorOf, 48:g_impl_absolute, 58:g_impl_ifAll]; names [(a, 0), (kind, 1), (a, 2), (kind, 3), (out, 6), (i, 7), (x, 8), (t, 9), (w, 10)] -/
def ps_impl_Tapered : List Nat := [0, 1, 4, 5, 6, 7, 8, 9, 10, 18, 20, 21, 22, 23, 34, 35, 43]
def lv_impl_Tapered_L0 : List Nat := [0, 1, 6, 20, 21, 22]
def b_impl_Tapered_L0 (g_impl_IsSeries g_impl_within g_impl_PhasorOf g_impl_absolute g_impl_ifAll : FuncId) : VCode :=
  (.seq
   (.region false [
    ⟨some 23, (.bin .lss), [.t 22, .t 21], none⟩])
   (.seq
    (.cond (.t 23)
     .skip
     (.exit 0))
    (.seq
     (.block 1
      (.seq
       (.region false [
        ⟨some 24, .mv, [.t 22], none⟩,
        ⟨some 25, .iaddr, [.t 20, .t 22], none⟩,
        ⟨some 26, .load, [.t 25], none⟩,
        ⟨some 7, .mv, [.t 24], none⟩,
        ⟨some 8, .mv, [.t 26], none⟩])
       (.seq
        (.region false [
         ⟨some 27, .mv, [.t 7], none⟩,
         ⟨some 28, (.convF .f32), [.t 27], none⟩,
         ⟨some 29, (.bin .add), [.t 28, .k (.f .f32 1056964608)], none⟩,
         ⟨some 30, .mv, [.t 0], none⟩,
         ⟨some 31, .len, [.t 30], none⟩,
         ⟨some 32, (.convF .f32), [.t 31], none⟩,
         ⟨some 33, (.bin .quo), [.t 29, .t 32], none⟩,
         ⟨some 9, .mv, [.t 33], none⟩])
        (.seq
         (.region false [
          ⟨some 10, .mv, [.k (.f .f32 1065353216)], none⟩])
         (.seq
          (.seq
           (.region false [
            ⟨some 34, .mv, [.t 1], none⟩])
           (.block 2
            (.seq
             (.region false [
              ⟨some 36, (.bin .eql), [.t 34, .k (.i .i64 1)], none⟩,
              ⟨some 35, .mv, [.t 36], none⟩])
             (.cond (.t 35)
              (.region false [
               ⟨some 37, .mv, [.t 9], none⟩,
               ⟨some 38, (.convF .f64), [.t 37], none⟩,
               ⟨some 39, (.call g_impl_PhasorOf), [.t 38], none⟩,
               ⟨some 40, .re, [.t 39], none⟩,
               ⟨some 41, (.bin .mul), [.k (.f .f32 1056964608), .t 40], none⟩,
               ⟨some 42, (.bin .sub), [.k (.f .f32 1056964608), .t 41], none⟩,
               ⟨some 10, .mv, [.t 42], none⟩])
              (.seq
               (.region false [
                ⟨some 44, (.bin .eql), [.t 34, .k (.i .i64 2)], none⟩,
                ⟨some 43, .mv, [.t 44], none⟩])
               (.cond (.t 43)
                (.region false [
                 ⟨some 45, .mv, [.t 9], none⟩,
                 ⟨some 46, (.bin .mul), [.k (.f .f32 1073741824), .t 45], none⟩,
                 ⟨some 47, (.bin .sub), [.t 46, .k (.f .f32 1065353216)], none⟩,
                 ⟨some 48, (.call g_impl_absolute), [.t 47], none⟩,
                 ⟨some 49, (.bin .sub), [.k (.f .f32 1065353216), .t 48], none⟩,
                 ⟨some 10, .mv, [.t 49], none⟩])
                .skip))))))
          (.region false [
           ⟨some 50, .mv, [.t 6], none⟩,
           ⟨some 51, .mv, [.t 8], none⟩,
           ⟨some 52, .mv, [.t 10], none⟩,
           ⟨some 53, (.bin .mul), [.t 51, .t 52], none⟩,
           ⟨some 54, (.lit true (.f .f32 [])), [.t 53], none⟩,
           ⟨some 55, .app, [.t 50, .t 54], none⟩,
           ⟨some 6, .mv, [.t 55], none⟩]))))))
     (.region false [
      ⟨some 56, (.bin .add), [.t 22, .k (.i .i64 1)], none⟩,
      ⟨some 22, .mv, [.t 56], none⟩]))))

def b_impl_Tapered (g_impl_IsSeries g_impl_within g_impl_PhasorOf g_impl_absolute g_impl_ifAll : FuncId) : VCode :=
  (.seq
   (.region false [
    ⟨some 4, (.nilsl (.f .f32 [])), [], none⟩,
    ⟨some 5, .mv, [.k (.b false)], none⟩])
   (.seq
    (.seq
     (.region false [
      ⟨some 11, .mv, [.t 0], none⟩,
      ⟨some 12, (.call g_impl_IsSeries), [.t 11], none⟩,
      ⟨some 13, .not, [.t 12], none⟩,
      ⟨some 14, .mv, [.t 13], none⟩,
      ⟨some 15, .mv, [.t 1], some (14, false)⟩,
      ⟨some 16, (.call g_impl_within), [.t 15, .k (.i .i64 0), .k (.i .i64 2)], some (14, false)⟩,
      ⟨some 17, .not, [.t 16], some (14, false)⟩,
      ⟨some 18, .pick, [.t 14, .k (.b true), .t 17], none⟩])
     (.cond (.t 18)
      (.seq
       (.region false [
        ⟨some 4, (.nilsl (.f .f32 [])), [], none⟩,
        ⟨some 5, .mv, [.k (.b false)], none⟩])
       .ret)
      .skip))
    (.seq
     (.region false [
      ⟨some 19, (.lit true (.f .f32 [])), [], none⟩,
      ⟨some 6, .mv, [.t 19], none⟩])
     (.seq
      (.seq
       (.region false [
        ⟨some 20, .mv, [.t 0], none⟩,
        ⟨some 21, .len, [.t 20], none⟩,
        ⟨some 22, .mv, [.k (.i .i64 0)], none⟩])
       (.block 0 (.loop (b_impl_Tapered_L0 g_impl_IsSeries g_impl_within g_impl_PhasorOf g_impl_absolute g_impl_ifAll))))
      (.seq
       (.region false [
        ⟨some 57, .mv, [.t 6], none⟩,
        ⟨some 58, (.call g_impl_ifAll), [.t 57], none⟩,
        ⟨some 59, (.extract 0), [.t 58], none⟩,
        ⟨some 60, (.extract 1), [.t 58], none⟩,
        ⟨some 4, .mv, [.t 59], none⟩,
        ⟨some 5, .mv, [.t 60], none⟩])
       .ret)))))

abbrev Is_impl_Tapered (P : Program) (g_f : FuncId) (g_impl_IsSeries g_impl_within g_impl_PhasorOf g_impl_absolute g_impl_ifAll : FuncId) : Prop := FnIs P g_f 61 [.t 4, .t 5] (b_impl_Tapered g_impl_IsSeries g_impl_within g_impl_PhasorOf g_impl_absolute g_impl_ifAll)

abbrev C_impl_Tapered (P : Program) (g_f : FuncId) : Prop := ∀ (a : List Nat) (kind : Int) (hx : a.length ≤ maxLen), VCall P g_f [PS [0] .f32 a, .i .i64 kind] (.tup [OS 0 .f32 (if tpOk a kind = true then tpM a kind a.length else []), .b (tpOk a kind)])
def oc1_impl_Tapered (as : List AV) : T AV := match as with | [.sl _ _ (.f .f32 a), .i .i64 kind] => .leaf (.tup [OS 0 .f32 (if tpOk a kind = true then tpM a kind a.length else []), .b (tpOk a kind)]) | _ => .fail
def oc_impl_Tapered (a : List Nat) (kind : Int) (d : Nat) (as : List AV) : T AV := match d with | 12 => oc1_impl_IsSeries as | 16 => oc1_impl_within as | 39 => oc1_impl_PhasorOf as | 48 => oc1_impl_absolute as | 58 => oc1_impl_ifAll as | _ => .fail
def h_impl_Tapered_L0 (a : List Nat) (kind : Int) (out : List Nat) (v22 : Int) : Env := [AV.sl (Tag.par [0]) 0 (Cont.f FloatKind.f32 a), AV.i IntKind.i64 kind] ++ anys 4 ++ [.sl (Tag.own 152) 0 (.f FloatKind.f32 out)] ++ anys 13 ++ [AV.sl (Tag.par [0]) 0 (Cont.f FloatKind.f32 a), AV.i IntKind.i64 (↑(List.length a) : Int), .i IntKind.i64 v22] ++ anys 38

theorem q_impl_Tapered_L0 {VC : FuncId → List AV → AV → Prop} {g_impl_IsSeries g_impl_within g_impl_PhasorOf g_impl_absolute g_impl_ifAll : FuncId} (a : List Nat) (kind : Int) (out : List Nat) (v22 : Int) {e_ : Ex} {σ_ : Env} (ht : T.ok (fun x_ => x_ = (e_, σ_)) (
      T.ite (decide (v22 < (↑(List.length a) : Int)))
        (T.ob (0 ≤ v22 ∧ v22 < (↑(List.length a) : Int))
          (T.ob True
            (T.ob True
              (T.ob True
                (T.ite (kind == 1)
                  (T.ob (fconvOk FloatKind.f32 FloatKind.f64 (fdiv FloatKind.f32 (fadd FloatKind.f32 (fofi FloatKind.f32 v22) 1056964608) (fofi FloatKind.f32 (↑(List.length a) : Int))) = true)
                    (T.ob
                      (VC g_impl_PhasorOf [AV.f FloatKind.f64 (fconv FloatKind.f32 FloatKind.f64 (fdiv FloatKind.f32 (fadd FloatKind.f32 (fofi FloatKind.f32 v22) 1056964608) (fofi FloatKind.f32 (↑(List.length a) : Int))))]
                        (AV.c FloatKind.f32
                          (Prod.fst (phM (fconv FloatKind.f32 FloatKind.f64 (fdiv FloatKind.f32 (fadd FloatKind.f32 (fofi FloatKind.f32 v22) 1056964608) (fofi FloatKind.f32 (↑(Cont.len (Cont.f FloatKind.f32 a)) : Int))))))
                          (Prod.snd (phM (fconv FloatKind.f32 FloatKind.f64 (fdiv FloatKind.f32 (fadd FloatKind.f32 (fofi FloatKind.f32 v22) 1056964608) (fofi FloatKind.f32 (↑(Cont.len (Cont.f FloatKind.f32 a)) : Int))))))))
                      (T.ob
                        (List.length out +
                            List.length
                              [fmul FloatKind.f32 (List.getD a (Int.toNat v22) 0)
                                  (fsub FloatKind.f32 1056964608
                                    (fmul FloatKind.f32 1056964608
                                      (Prod.fst
                                        (phM
                                          (fconv FloatKind.f32 FloatKind.f64
                                            (fdiv FloatKind.f32 (fadd FloatKind.f32 (fofi FloatKind.f32 v22) 1056964608) (fofi FloatKind.f32 (↑(Cont.len (Cont.f FloatKind.f32 a)) : Int))))))))] ≤
                          4294967296)
                        (T.leaf
                          (Ex.normal,
                            h_impl_Tapered_L0 a kind
                              (out ++
                                [fmul FloatKind.f32 (List.getD a (Int.toNat v22) 0)
                                    (fsub FloatKind.f32 1056964608
                                      (fmul FloatKind.f32 1056964608
                                        (Prod.fst
                                          (phM
                                            (fconv FloatKind.f32 FloatKind.f64
                                              (fdiv FloatKind.f32 (fadd FloatKind.f32 (fofi FloatKind.f32 v22) 1056964608) (fofi FloatKind.f32 (↑(Cont.len (Cont.f FloatKind.f32 a)) : Int))))))))])
                              (IntKind.wrap IntKind.i64 (v22 + 1)))))))
                  (T.ite (kind == 2)
                    (T.ob
                      (VC g_impl_absolute
                        [AV.f FloatKind.f32
                            (fsub FloatKind.f32 (fmul FloatKind.f32 1073741824 (fdiv FloatKind.f32 (fadd FloatKind.f32 (fofi FloatKind.f32 v22) 1056964608) (fofi FloatKind.f32 (↑(List.length a) : Int)))) 1065353216)]
                        (AV.f FloatKind.f32
                          (absF (fsub FloatKind.f32 (fmul FloatKind.f32 1073741824 (fdiv FloatKind.f32 (fadd FloatKind.f32 (fofi FloatKind.f32 v22) 1056964608) (fofi FloatKind.f32 (↑(List.length a) : Int)))) 1065353216))))
                      (T.ob
                        (List.length out +
                            List.length
                              [fmul FloatKind.f32 (List.getD a (Int.toNat v22) 0)
                                  (fsub FloatKind.f32 1065353216
                                    (absF
                                      (fsub FloatKind.f32 (fmul FloatKind.f32 1073741824 (fdiv FloatKind.f32 (fadd FloatKind.f32 (fofi FloatKind.f32 v22) 1056964608) (fofi FloatKind.f32 (↑(List.length a) : Int))))
                                        1065353216)))] ≤
                          4294967296)
                        (T.leaf
                          (Ex.normal,
                            h_impl_Tapered_L0 a kind
                              (out ++
                                [fmul FloatKind.f32 (List.getD a (Int.toNat v22) 0)
                                    (fsub FloatKind.f32 1065353216
                                      (absF
                                        (fsub FloatKind.f32 (fmul FloatKind.f32 1073741824 (fdiv FloatKind.f32 (fadd FloatKind.f32 (fofi FloatKind.f32 v22) 1056964608) (fofi FloatKind.f32 (↑(List.length a) : Int))))
                                          1065353216)))])
                              (IntKind.wrap IntKind.i64 (v22 + 1))))))
                    (T.ob (List.length out + List.length [fmul FloatKind.f32 (List.getD a (Int.toNat v22) 0) 1065353216] ≤ 4294967296)
                      (T.leaf (Ex.normal, h_impl_Tapered_L0 a kind (out ++ [fmul FloatKind.f32 (List.getD a (Int.toNat v22) 0) 1065353216]) (IntKind.wrap IntKind.i64 (v22 + 1)))))))))))
        (T.leaf (Ex.exit 0, h_impl_Tapered_L0 a kind out v22)))) :
    Exec VC ps_impl_Tapered (b_impl_Tapered_L0 g_impl_IsSeries g_impl_within g_impl_PhasorOf g_impl_absolute g_impl_ifAll) (h_impl_Tapered_L0 a kind out v22) e_ σ_ := evL_of (lv := lv_impl_Tapered_L0) (rs := [4, 5]) (O := ⟨oc_impl_Tapered a kind, fun _ _ => none⟩) (by kernel_rfl) ht

theorem q_impl_Tapered {P : Program} {g_f : FuncId} {g_impl_IsSeries g_impl_within g_impl_PhasorOf g_impl_absolute g_impl_ifAll : FuncId} (h_ : Is_impl_Tapered P g_f g_impl_IsSeries g_impl_within g_impl_PhasorOf g_impl_absolute g_impl_ifAll) (a : List Nat) (kind : Int) (ht : T.ok (fun x_ => x_ = .tup [OS 0 .f32 (if tpOk a kind = true then tpM a kind a.length else []), .b (tpOk a kind)]) (
      T.ob ((VCall P) g_impl_IsSeries [AV.sl (Tag.par [0]) 0 (Cont.f FloatKind.f32 a)] (AV.b (seriesM a)))
        (T.ite (!seriesM a) (T.leaf (AV.tup [AV.sl (Tag.own 0) 0 (Cont.f FloatKind.f32 []), AV.b false]))
          (T.ob ((VCall P) g_impl_within [AV.i IntKind.i64 kind, AV.i IntKind.i64 0, AV.i IntKind.i64 2] (AV.b (inM kind 0 2)))
            (T.ite (!inM kind 0 2) (T.leaf (AV.tup [AV.sl (Tag.own 0) 0 (Cont.f FloatKind.f32 []), AV.b false]))
              (T.ob
                (Exec (VCall P) ps_impl_Tapered (VCode.block 0 (VCode.loop (b_impl_Tapered_L0 g_impl_IsSeries g_impl_within g_impl_PhasorOf g_impl_absolute g_impl_ifAll))) (h_impl_Tapered_L0 a kind [] 0) Ex.normal
                  (h_impl_Tapered_L0 a kind (tpM a kind (List.length a)) (↑(List.length a) : Int)))
                (T.ob
                  ((VCall P) g_impl_ifAll [AV.sl (Tag.par [0]) 0 (Cont.f FloatKind.f32 (tpM a kind (List.length a)))]
                    (AV.tup [AV.sl (Tag.par [0]) 0 (Cont.f FloatKind.f32 (ifAllM (tpM a kind (List.length a)))), AV.b (finAllM (tpM a kind (List.length a)))]))
                  (T.leaf (AV.tup [AV.sl (Tag.own 0) 0 (Cont.f FloatKind.f32 (ifAllM (tpM a kind (List.length a)))), AV.b (finAllM (tpM a kind (List.length a)))]))))))))) :
    VCall P g_f [PS [0] .f32 a, .i .i64 kind] (.tup [OS 0 .f32 (if tpOk a kind = true then tpM a kind a.length else []), .b (tpOk a kind)]) := h_.call_of ps_impl_Tapered ⟨oc_impl_Tapered a kind, fun id σ => match id with | 0 => some (lv_impl_Tapered_L0, .leaf (.normal, h_impl_Tapered_L0 a kind (tpM a kind a.length) a.length)) | _ => none⟩ (by kernel_rfl) ht

-- END impl_Tapered
-- FN spec_Tapered
/-- spec.Tapered: slots 60, results [.t 4, .t 5]; calls [11:g_spec_l02Series, 15:g_spec_l00In, 35:g_spec_l01Phasor, 44:g_spec_l03Size, 57:g_spec_l03Given]; names [(a, 0), (kind, 1), (a, 2), (kind, 3), (out, 6), (i, 7), (t, 8), (w, 9)] -/
def ps_spec_Tapered : List Nat := [0, 1, 4, 5, 6, 7, 8, 9, 17, 20, 21, 22, 32, 40]
def lv_spec_Tapered_L0 : List Nat := [0, 1, 6, 20, 21]
def b_spec_Tapered_L0 (g_spec_l02Series g_spec_l00In g_spec_l01Phasor g_spec_l03Size g_spec_l03Given : FuncId) : VCode :=
  (.seq
   (.region false [
    ⟨some 22, (.bin .lss), [.t 21, .t 20], none⟩])
   (.seq
    (.cond (.t 22)
     .skip
     (.exit 0))
    (.seq
     (.block 1
      (.seq
       (.region false [
        ⟨some 23, .mv, [.t 21], none⟩,
        ⟨some 7, .mv, [.t 23], none⟩])
       (.seq
        (.region false [
         ⟨some 24, .mv, [.t 7], none⟩,
         ⟨some 25, (.convF .f32), [.t 24], none⟩,
         ⟨some 26, (.bin .add), [.t 25, .k (.f .f32 1056964608)], none⟩,
         ⟨some 27, .mv, [.t 0], none⟩,
         ⟨some 28, .len, [.t 27], none⟩,
         ⟨some 29, (.convF .f32), [.t 28], none⟩,
         ⟨some 30, (.bin .quo), [.t 26, .t 29], none⟩,
         ⟨some 8, .mv, [.t 30], none⟩])
        (.seq
         (.region false [
          ⟨some 9, .mv, [.k (.f .f32 1065353216)], none⟩])
         (.seq
          (.seq
           (.region false [
            ⟨some 31, .mv, [.t 1], none⟩,
            ⟨some 32, (.bin .eql), [.t 31, .k (.i .i64 1)], none⟩])
           (.cond (.t 32)
            (.region false [
             ⟨some 33, .mv, [.t 8], none⟩,
             ⟨some 34, (.convF .f64), [.t 33], none⟩,
             ⟨some 35, (.call g_spec_l01Phasor), [.t 34], none⟩,
             ⟨some 36, .re, [.t 35], none⟩,
             ⟨some 37, (.bin .mul), [.k (.f .f32 1056964608), .t 36], none⟩,
             ⟨some 38, (.bin .sub), [.k (.f .f32 1056964608), .t 37], none⟩,
             ⟨some 9, .mv, [.t 38], none⟩])
            .skip))
          (.seq
           (.seq
            (.region false [
             ⟨some 39, .mv, [.t 1], none⟩,
             ⟨some 40, (.bin .eql), [.t 39, .k (.i .i64 2)], none⟩])
            (.cond (.t 40)
             (.region false [
              ⟨some 41, .mv, [.t 8], none⟩,
              ⟨some 42, (.bin .mul), [.k (.f .f32 1073741824), .t 41], none⟩,
              ⟨some 43, (.bin .sub), [.t 42, .k (.f .f32 1065353216)], none⟩,
              ⟨some 44, (.call g_spec_l03Size), [.t 43], none⟩,
              ⟨some 45, (.bin .sub), [.k (.f .f32 1065353216), .t 44], none⟩,
              ⟨some 9, .mv, [.t 45], none⟩])
             .skip))
           (.region false [
            ⟨some 46, .mv, [.t 6], none⟩,
            ⟨some 47, .mv, [.t 0], none⟩,
            ⟨some 48, .mv, [.t 7], none⟩,
            ⟨some 49, .iaddr, [.t 47, .t 48], none⟩,
            ⟨some 50, .load, [.t 49], none⟩,
            ⟨some 51, .mv, [.t 9], none⟩,
            ⟨some 52, (.bin .mul), [.t 50, .t 51], none⟩,
            ⟨some 53, (.lit true (.f .f32 [])), [.t 52], none⟩,
            ⟨some 54, .app, [.t 46, .t 53], none⟩,
            ⟨some 6, .mv, [.t 54], none⟩])))))))
     (.region false [
      ⟨some 55, (.bin .add), [.t 21, .k (.i .i64 1)], none⟩,
      ⟨some 21, .mv, [.t 55], none⟩]))))

def b_spec_Tapered (g_spec_l02Series g_spec_l00In g_spec_l01Phasor g_spec_l03Size g_spec_l03Given : FuncId) : VCode :=
  (.seq
   (.region false [
    ⟨some 4, (.nilsl (.f .f32 [])), [], none⟩,
    ⟨some 5, .mv, [.k (.b false)], none⟩])
   (.seq
    (.seq
     (.region false [
      ⟨some 10, .mv, [.t 0], none⟩,
      ⟨some 11, (.call g_spec_l02Series), [.t 10], none⟩,
      ⟨some 12, .not, [.t 11], none⟩,
      ⟨some 13, .mv, [.t 12], none⟩,
      ⟨some 14, .mv, [.t 1], some (13, false)⟩,
      ⟨some 15, (.call g_spec_l00In), [.t 14, .k (.i .i64 0), .k (.i .i64 2)], some (13, false)⟩,
      ⟨some 16, .not, [.t 15], some (13, false)⟩,
      ⟨some 17, .pick, [.t 13, .k (.b true), .t 16], none⟩])
     (.cond (.t 17)
      (.seq
       (.region false [
        ⟨some 4, (.nilsl (.f .f32 [])), [], none⟩,
        ⟨some 5, .mv, [.k (.b false)], none⟩])
       .ret)
      .skip))
    (.seq
     (.region false [
      ⟨some 18, (.lit true (.f .f32 [])), [], none⟩,
      ⟨some 6, .mv, [.t 18], none⟩])
     (.seq
      (.seq
       (.region false [
        ⟨some 19, .mv, [.t 0], none⟩,
        ⟨some 20, .len, [.t 19], none⟩,
        ⟨some 21, .mv, [.k (.i .i64 0)], none⟩])
       (.block 0 (.loop (b_spec_Tapered_L0 g_spec_l02Series g_spec_l00In g_spec_l01Phasor g_spec_l03Size g_spec_l03Given))))
      (.seq
       (.region false [
        ⟨some 56, .mv, [.t 6], none⟩,
        ⟨some 57, (.call g_spec_l03Given), [.t 56], none⟩,
        ⟨some 58, (.extract 0), [.t 57], none⟩,
        ⟨some 59, (.extract 1), [.t 57], none⟩,
        ⟨some 4, .mv, [.t 58], none⟩,
        ⟨some 5, .mv, [.t 59], none⟩])
       .ret)))))

abbrev Is_spec_Tapered (P : Program) (g_f : FuncId) (g_spec_l02Series g_spec_l00In g_spec_l01Phasor g_spec_l03Size g_spec_l03Given : FuncId) : Prop := FnIs P g_f 60 [.t 4, .t 5] (b_spec_Tapered g_spec_l02Series g_spec_l00In g_spec_l01Phasor g_spec_l03Size g_spec_l03Given)

abbrev C_spec_Tapered (P : Program) (g_f : FuncId) : Prop := ∀ (a : List Nat) (kind : Int) (hx : a.length ≤ maxLen), VCall P g_f [PS [0] .f32 a, .i .i64 kind] (.tup [OS 0 .f32 (if tpOk a kind = true then tpM a kind a.length else []), .b (tpOk a kind)])
def oc1_spec_Tapered (as : List AV) : T AV := match as with | [.sl _ _ (.f .f32 a), .i .i64 kind] => .leaf (.tup [OS 0 .f32 (if tpOk a kind = true then tpM a kind a.length else []), .b (tpOk a kind)]) | _ => .fail
def oc_spec_Tapered (a : List Nat) (kind : Int) (d : Nat) (as : List AV) : T AV := match d with | 11 => oc1_spec_l02Series as | 15 => oc1_spec_l00In as | 35 => oc1_spec_l01Phasor as | 44 => oc1_spec_l03Size as | 57 => oc1_spec_l03Given as | _ => .fail
def h_spec_Tapered_L0 (a : List Nat) (kind : Int) (out : List Nat) (v21 : Int) : Env := [AV.sl (Tag.par [0]) 0 (Cont.f FloatKind.f32 a), AV.i IntKind.i64 kind] ++ anys 4 ++ [.sl (Tag.own 144) 0 (.f FloatKind.f32 out)] ++ anys 13 ++ [AV.i IntKind.i64 (↑(List.length a) : Int), .i IntKind.i64 v21] ++ anys 38

theorem q_spec_Tapered_L0 {VC : FuncId → List AV → AV → Prop} {g_spec_l02Series g_spec_l00In g_spec_l01Phasor g_spec_l03Size g_spec_l03Given : FuncId} (a : List Nat) (kind : Int) (out : List Nat) (v21 : Int) {e_ : Ex} {σ_ : Env} (ht : T.ok (fun x_ => x_ = (e_, σ_)) (
      T.ite (decide (v21 < (↑(List.length a) : Int)))
        (T.ob True
          (T.ob True
            (T.ob True
              (T.ite (kind == 1)
                (T.ob (fconvOk FloatKind.f32 FloatKind.f64 (fdiv FloatKind.f32 (fadd FloatKind.f32 (fofi FloatKind.f32 v21) 1056964608) (fofi FloatKind.f32 (↑(List.length a) : Int))) = true)
                  (T.ob
                    (VC g_spec_l01Phasor [AV.f FloatKind.f64 (fconv FloatKind.f32 FloatKind.f64 (fdiv FloatKind.f32 (fadd FloatKind.f32 (fofi FloatKind.f32 v21) 1056964608) (fofi FloatKind.f32 (↑(List.length a) : Int))))]
                      (AV.c FloatKind.f32
                        (Prod.fst (phM (fconv FloatKind.f32 FloatKind.f64 (fdiv FloatKind.f32 (fadd FloatKind.f32 (fofi FloatKind.f32 v21) 1056964608) (fofi FloatKind.f32 (↑(Cont.len (Cont.f FloatKind.f32 a)) : Int))))))
                        (Prod.snd (phM (fconv FloatKind.f32 FloatKind.f64 (fdiv FloatKind.f32 (fadd FloatKind.f32 (fofi FloatKind.f32 v21) 1056964608) (fofi FloatKind.f32 (↑(Cont.len (Cont.f FloatKind.f32 a)) : Int))))))))
                    (T.ite (kind == 2)
                      (T.ob
                        (VC g_spec_l03Size
                          [AV.f FloatKind.f32
                              (fsub FloatKind.f32 (fmul FloatKind.f32 1073741824 (fdiv FloatKind.f32 (fadd FloatKind.f32 (fofi FloatKind.f32 v21) 1056964608) (fofi FloatKind.f32 (↑(List.length a) : Int)))) 1065353216)]
                          (AV.f FloatKind.f32
                            (sizF (fsub FloatKind.f32 (fmul FloatKind.f32 1073741824 (fdiv FloatKind.f32 (fadd FloatKind.f32 (fofi FloatKind.f32 v21) 1056964608) (fofi FloatKind.f32 (↑(List.length a) : Int)))) 1065353216))))
                        (T.ob (0 ≤ v21 ∧ v21 < (↑(List.length a) : Int))
                          (T.ob
                            (List.length out +
                                List.length
                                  [fmul FloatKind.f32 (List.getD a (Int.toNat v21) 0)
                                      (fsub FloatKind.f32 1065353216
                                        (sizF
                                          (fsub FloatKind.f32 (fmul FloatKind.f32 1073741824 (fdiv FloatKind.f32 (fadd FloatKind.f32 (fofi FloatKind.f32 v21) 1056964608) (fofi FloatKind.f32 (↑(List.length a) : Int))))
                                            1065353216)))] ≤
                              4294967296)
                            (T.leaf
                              (Ex.normal,
                                h_spec_Tapered_L0 a kind
                                  (out ++
                                    [fmul FloatKind.f32 (List.getD a (Int.toNat v21) 0)
                                        (fsub FloatKind.f32 1065353216
                                          (sizF
                                            (fsub FloatKind.f32 (fmul FloatKind.f32 1073741824 (fdiv FloatKind.f32 (fadd FloatKind.f32 (fofi FloatKind.f32 v21) 1056964608) (fofi FloatKind.f32 (↑(List.length a) : Int))))
                                              1065353216)))])
                                  (IntKind.wrap IntKind.i64 (v21 + 1)))))))
                      (T.ob (0 ≤ v21 ∧ v21 < (↑(List.length a) : Int))
                        (T.ob
                          (List.length out +
                              List.length
                                [fmul FloatKind.f32 (List.getD a (Int.toNat v21) 0)
                                    (fsub FloatKind.f32 1056964608
                                      (fmul FloatKind.f32 1056964608
                                        (Prod.fst
                                          (phM
                                            (fconv FloatKind.f32 FloatKind.f64
                                              (fdiv FloatKind.f32 (fadd FloatKind.f32 (fofi FloatKind.f32 v21) 1056964608) (fofi FloatKind.f32 (↑(Cont.len (Cont.f FloatKind.f32 a)) : Int))))))))] ≤
                            4294967296)
                          (T.leaf
                            (Ex.normal,
                              h_spec_Tapered_L0 a kind
                                (out ++
                                  [fmul FloatKind.f32 (List.getD a (Int.toNat v21) 0)
                                      (fsub FloatKind.f32 1056964608
                                        (fmul FloatKind.f32 1056964608
                                          (Prod.fst
                                            (phM
                                              (fconv FloatKind.f32 FloatKind.f64
                                                (fdiv FloatKind.f32 (fadd FloatKind.f32 (fofi FloatKind.f32 v21) 1056964608) (fofi FloatKind.f32 (↑(Cont.len (Cont.f FloatKind.f32 a)) : Int))))))))])
                                (IntKind.wrap IntKind.i64 (v21 + 1)))))))))
                (T.ite (kind == 2)
                  (T.ob
                    (VC g_spec_l03Size
                      [AV.f FloatKind.f32
                          (fsub FloatKind.f32 (fmul FloatKind.f32 1073741824 (fdiv FloatKind.f32 (fadd FloatKind.f32 (fofi FloatKind.f32 v21) 1056964608) (fofi FloatKind.f32 (↑(List.length a) : Int)))) 1065353216)]
                      (AV.f FloatKind.f32
                        (sizF (fsub FloatKind.f32 (fmul FloatKind.f32 1073741824 (fdiv FloatKind.f32 (fadd FloatKind.f32 (fofi FloatKind.f32 v21) 1056964608) (fofi FloatKind.f32 (↑(List.length a) : Int)))) 1065353216))))
                    (T.ob (0 ≤ v21 ∧ v21 < (↑(List.length a) : Int))
                      (T.ob
                        (List.length out +
                            List.length
                              [fmul FloatKind.f32 (List.getD a (Int.toNat v21) 0)
                                  (fsub FloatKind.f32 1065353216
                                    (sizF
                                      (fsub FloatKind.f32 (fmul FloatKind.f32 1073741824 (fdiv FloatKind.f32 (fadd FloatKind.f32 (fofi FloatKind.f32 v21) 1056964608) (fofi FloatKind.f32 (↑(List.length a) : Int))))
                                        1065353216)))] ≤
                          4294967296)
                        (T.leaf
                          (Ex.normal,
                            h_spec_Tapered_L0 a kind
                              (out ++
                                [fmul FloatKind.f32 (List.getD a (Int.toNat v21) 0)
                                    (fsub FloatKind.f32 1065353216
                                      (sizF
                                        (fsub FloatKind.f32 (fmul FloatKind.f32 1073741824 (fdiv FloatKind.f32 (fadd FloatKind.f32 (fofi FloatKind.f32 v21) 1056964608) (fofi FloatKind.f32 (↑(List.length a) : Int))))
                                          1065353216)))])
                              (IntKind.wrap IntKind.i64 (v21 + 1)))))))
                  (T.ob (0 ≤ v21 ∧ v21 < (↑(List.length a) : Int))
                    (T.ob (List.length out + List.length [fmul FloatKind.f32 (List.getD a (Int.toNat v21) 0) 1065353216] ≤ 4294967296)
                      (T.leaf (Ex.normal, h_spec_Tapered_L0 a kind (out ++ [fmul FloatKind.f32 (List.getD a (Int.toNat v21) 0) 1065353216]) (IntKind.wrap IntKind.i64 (v21 + 1)))))))))))
        (T.leaf (Ex.exit 0, h_spec_Tapered_L0 a kind out v21)))) :
    Exec VC ps_spec_Tapered (b_spec_Tapered_L0 g_spec_l02Series g_spec_l00In g_spec_l01Phasor g_spec_l03Size g_spec_l03Given) (h_spec_Tapered_L0 a kind out v21) e_ σ_ := evL_of (lv := lv_spec_Tapered_L0) (rs := [4, 5]) (O := ⟨oc_spec_Tapered a kind, fun _ _ => none⟩) (by kernel_rfl) ht

theorem q_spec_Tapered {P : Program} {g_f : FuncId} {g_spec_l02Series g_spec_l00In g_spec_l01Phasor g_spec_l03Size g_spec_l03Given : FuncId} (h_ : Is_spec_Tapered P g_f g_spec_l02Series g_spec_l00In g_spec_l01Phasor g_spec_l03Size g_spec_l03Given) (a : List Nat) (kind : Int) (ht : T.ok (fun x_ => x_ = .tup [OS 0 .f32 (if tpOk a kind = true then tpM a kind a.length else []), .b (tpOk a kind)]) (
      T.ob ((VCall P) g_spec_l02Series [AV.sl (Tag.par [0]) 0 (Cont.f FloatKind.f32 a)] (AV.b (seriesM a)))
        (T.ite (!seriesM a) (T.leaf (AV.tup [AV.sl (Tag.own 0) 0 (Cont.f FloatKind.f32 []), AV.b false]))
          (T.ob ((VCall P) g_spec_l00In [AV.i IntKind.i64 kind, AV.i IntKind.i64 0, AV.i IntKind.i64 2] (AV.b (inM kind 0 2)))
            (T.ite (!inM kind 0 2) (T.leaf (AV.tup [AV.sl (Tag.own 0) 0 (Cont.f FloatKind.f32 []), AV.b false]))
              (T.ob
                (Exec (VCall P) ps_spec_Tapered (VCode.block 0 (VCode.loop (b_spec_Tapered_L0 g_spec_l02Series g_spec_l00In g_spec_l01Phasor g_spec_l03Size g_spec_l03Given))) (h_spec_Tapered_L0 a kind [] 0) Ex.normal
                  (h_spec_Tapered_L0 a kind (tpM a kind (List.length a)) (↑(List.length a) : Int)))
                (T.ob
                  ((VCall P) g_spec_l03Given [AV.sl (Tag.par [0]) 0 (Cont.f FloatKind.f32 (tpM a kind (List.length a)))]
                    (AV.tup [AV.sl (Tag.par [0]) 0 (Cont.f FloatKind.f32 (ifAllM (tpM a kind (List.length a)))), AV.b (finAllM (tpM a kind (List.length a)))]))
                  (T.leaf (AV.tup [AV.sl (Tag.own 0) 0 (Cont.f FloatKind.f32 (ifAllM (tpM a kind (List.length a)))), AV.b (finAllM (tpM a kind (List.length a)))]))))))))) :
    VCall P g_f [PS [0] .f32 a, .i .i64 kind] (.tup [OS 0 .f32 (if tpOk a kind = true then tpM a kind a.length else []), .b (tpOk a kind)]) := h_.call_of ps_spec_Tapered ⟨oc_spec_Tapered a kind, fun id σ => match id with | 0 => some (lv_spec_Tapered_L0, .leaf (.normal, h_spec_Tapered_L0 a kind (tpM a kind a.length) a.length)) | _ => none⟩ (by kernel_rfl) ht

-- END spec_Tapered

/-! ### tapers -/
theorem k_impl_absolute {P : Program} {f : FuncId} (h : Is_impl_absolute P f) : C_impl_absolute P f := by
  intro x
  refine q_impl_absolute h x ?_
  repeat' (first | with_reducible refine T.ok_ob ?_ (fun _ => ?_) | with_reducible refine T.ok_ite (fun _ => ?_) (fun _ => ?_) | with_reducible refine T.ok_leaf ?_)
  all_goals first | with_reducible rfl | with_reducible assumption | contradiction | exact fconvOk_32_64 _ | assumption | exact rfl | (simp_all []; done) | (simp_all [T.ok]; omega)

theorem k_spec_l03Size {P : Program} {f : FuncId} (h : Is_spec_l03Size P f) : C_spec_l03Size P f := by
  intro x
  refine q_spec_l03Size h x ?_
  unfold sizF
  repeat' (first | with_reducible refine T.ok_ob ?_ (fun _ => ?_) | with_reducible refine T.ok_ite (fun _ => ?_) (fun _ => ?_) | with_reducible refine T.ok_leaf ?_)
  · rename_i hc; rw [if_pos hc]
  · rename_i hc; rw [if_neg (by rw [hc]; decide)]
theorem fsub_fw (k : FloatKind) (x y : Nat) : Fw k (fsub k x y) := by
  unfold fsub
  cases h : k.format.sub x y with
  | none => exact ⟨fnan k, by cases k <;> decide, by cases k <;> decide⟩
  | some r => exact ⟨r, (sub_some h).2, (sub_some h).1⟩
theorem neg_srung {x : Nat} (h : nanB .f32 x = false) : srung .f32 (fneg .f32 x) = - srung .f32 x ∧ nanB .f32 (fneg .f32 x) = false := by
  have h1 : (FloatKind.f32.format.read x).isNaN = false := h
  have e : fneg .f32 x = x ^^^ 2 ^ 31 := by
    unfold fneg; rw [h1]; simp only [Bool.false_eq_true, if_false]
    unfold Op.negFloat
    rw [show FloatKind.f32.format.exponentBits + FloatKind.f32.format.fractionBits = 31 by decide]
  have hS : Ieee.single.signWeight = 2 ^ 31 := by decide
  have h2 : rung Ieee.single (fneg .f32 x) = rung Ieee.single x := by
    rw [e]; unfold rung; rw [hS, Nat.xor_mod_two_pow, Nat.mod_self, Nat.xor_zero]
  have h3 : sign Ieee.single (fneg .f32 x) = !(sign Ieee.single x) := by
    rw [e]; unfold sign; rw [hS, Nat.xor_div_two_pow, Nat.div_self (by decide)]
    generalize x / 2 ^ 31 = d
    have h4 : (d ^^^ 1) % 2 = d % 2 ^^^ 1 % 2 := Nat.xor_mod_two_pow (n := 1)
    rw [h4]
    rcases Nat.mod_two_eq_zero_or_one d with h5 | h5 <;> rw [h5] <;> rfl
  refine ⟨?_, ?_⟩
  · show sg (sign Ieee.single _) (rung Ieee.single _) = - sg (sign Ieee.single x) (rung Ieee.single x)
    rw [h2, h3]
    cases sign Ieee.single x <;> simp [sg]
  · rw [nanB_iff] at h ⊢
    show decide (Ieee.single.infRung < rung Ieee.single (fneg .f32 x)) = false
    rw [h2]; exact h
/-- less an absolute value: both ways -/
theorem less_size {x : Nat} (h : Fw .f32 x) : fsub .f32 1065353216 (absF x) = fsub .f32 1065353216 (sizF x) := by
  by_cases hn : nanB .f32 x = true
  · have hx : x = fnan .f32 := by have := nanB_eq h; rw [hn] at this; exact beq_iff_eq.1 this.symm
    rw [hx]; decide +kernel
  have hn : nanB .f32 x = false := by simpa using hn
  obtain ⟨n1, n2⟩ := neg_srung hn
  have ho := order_rung hn n2
  rw [n1] at ho
  have hl := flt_eq .f32 x 0
  rw [hn, show nanB .f32 0 = false by decide, show srung .f32 0 = 0 by decide] at hl
  simp only [Bool.not_false, Bool.true_and] at hl
  have ec : ∀ a b : Int, compare a b = if a < b then .lt else if a = b then .eq else .gt := fun a b => rfl
  rw [ec] at ho
  rcases Int.lt_trichotomy (srung .f32 x) 0 with hz | hz | hz
  · rw [if_pos (by omega)] at ho
    have e1 : absF x = fneg .f32 x := by unfold absF fmax; rw [ho]
    have e2 : sizF x = fneg .f32 x := by unfold sizF; rw [hl, if_pos (by simpa using hz)]
    rw [e1, e2]
  · have hx : x = 0 ∨ x = 2147483648 := by
      have hw := h.lt
      have h5 : ∀ y, y < 2 ^ 32 → srung .f32 y = 0 → y = 0 ∨ y = 2147483648 := by
        intro y hy h0
        have hS : Ieee.single.signWeight = 2147483648 := by decide
        have h0 : sg (sign Ieee.single y) (rung Ieee.single y) = 0 := h0
        have h6 := sg_abs (sign Ieee.single y) (rung Ieee.single y)
        rw [h0] at h6
        have h6 : 0 = y % Ieee.single.signWeight := h6
        rw [hS] at h6
        omega
      exact h5 x hw hz
    rcases hx with rfl | rfl <;> decide +kernel
  · rw [if_neg (by omega), if_neg (by omega)] at ho
    have e1 : absF x = x := by unfold absF fmax; rw [ho]
    have e2 : sizF x = x := by unfold sizF; rw [hl, if_neg (by simp; omega)]
    rw [e1, e2]
theorem tp_1 {kind : Int} (h : kind = 1) (n i : Nat) : tpW kind n i = fsub .f32 1056964608 (fmul .f32 1056964608 (phM (fconv .f32 .f64 (tpT n i))).1) := by unfold tpW; rw [if_pos h]
theorem tp_2 {kind : Int} (h : kind = 2) (n i : Nat) : tpW kind n i = fsub .f32 1065353216 (absF (fsub .f32 (fmul .f32 1073741824 (tpT n i)) 1065353216)) := by unfold tpW; rw [if_neg (by omega), if_pos h]
theorem tp_3 {kind : Int} (h1 : kind ≠ 1) (h2 : kind ≠ 2) (n i : Nat) : tpW kind n i = 1065353216 := by unfold tpW; rw [if_neg h1, if_neg h2]
theorem tp_len (a : List Nat) (kind : Int) (n : Nat) : (tpM a kind n).length = n := tab_len _ _
theorem tp_succ (a : List Nat) (kind : Int) (n : Nat) : tpM a kind (n + 1) = tpM a kind n ++ [fmul .f32 (a.getD n 0) (tpW kind a.length n)] := tab_succ _ _
theorem k_impl_Tapered {P : Program} {f g1 g2 g3 g4 g5 : FuncId} (h : Is_impl_Tapered P f g1 g2 g3 g4 g5) (c1 : C_impl_IsSeries P g1) (c2 : C_impl_within P g2) (c3 : C_impl_PhasorOf P g3) (c4 : C_impl_absolute P g4) (c5 : C_impl_ifAll P g5) : C_impl_Tapered P f := by
  intro a kind hx
  refine q_impl_Tapered h a kind ?_
  cases hs : seriesM a
  · repeat' (first | with_reducible refine T.ok_ob ?_ (fun _ => ?_) | with_reducible refine T.ok_ite (fun _ => ?_) (fun _ => ?_) | with_reducible refine T.ok_leaf ?_)
    all_goals first | exact hs ▸ c1 _ hx | contradiction | (simp [tpOk, hs]; done)
  cases hi : inM kind 0 2
  · repeat' (first | with_reducible refine T.ok_ob ?_ (fun _ => ?_) | with_reducible refine T.ok_ite (fun _ => ?_) (fun _ => ?_) | with_reducible refine T.ok_leaf ?_)
    all_goals first | exact hs ▸ c1 _ hx | exact hi ▸ c2 _ _ _ | contradiction | (simp [tpOk, hs, hi]; done)
  have hl := series_len hs
  have c5 := c5 (tpM a kind a.length) (by rw [tp_len, maxLen_eq]; omega)
  repeat' (first | with_reducible refine T.ok_ob ?_ (fun _ => ?_) | with_reducible refine T.ok_ite (fun _ => ?_) (fun _ => ?_) | with_reducible refine T.ok_leaf ?_)
  all_goals first | exact hs ▸ c1 _ hx | exact hi ▸ c2 _ _ _ | contradiction | exact c5 | (simp [tpOk, hs, hi, ifAllM]; done) | skip
  refine for_up (e := .exit 0) a.length (fun i => h_impl_Tapered_L0 a kind (tpM a kind i) i) rfl (fun i hi => ?_) ?_
  · refine q_impl_Tapered_L0 _ _ _ _ ?_
    have tl := tp_len a kind i
    have d3 := c3 (fconv .f32 .f64 (tpT a.length i))
    have d4 := c4 (fsub .f32 (fmul .f32 1073741824 (tpT a.length i)) 1065353216)
    rw [show fdiv .f32 (fadd .f32 (fofi .f32 (i : Int)) 1056964608) (fofi .f32 (a.length : Int)) = tpT a.length i from rfl]
    rw [tp_succ]
    repeat' (first | with_reducible refine T.ok_ob ?_ (fun _ => ?_) | with_reducible refine T.ok_ite (fun _ => ?_) (fun _ => ?_) | with_reducible refine T.ok_leaf ?_)
    all_goals (try simp only [decide_eq_true_eq, decide_eq_false_iff_not, Bool.not_eq_true', Bool.not_eq_false', Bool.not_eq_eq_eq_not, Bool.not_true, Bool.not_false, Int.toNat_natCast, tab_len, List.length_append, List.length_singleton, List.length_cons, List.length_nil, List.length_drop, List.length_take, getD_drop', getD_nat, reduceCtorEq] at *)
    all_goals (try simp (disch := omega) only [wrap64_id] at *)
    all_goals first | omega | (exfalso; omega) | exact True.intro | skip
    all_goals first | exact fconvOk_32_64 _ | exact d3 | exact d4 | (simp only [beq_iff_eq, beq_eq_false_iff_ne] at *; first | (rw [tp_1 (by assumption)]; rfl) | (rw [tp_2 (by assumption)]; rfl) | (rw [tp_3 (by assumption) (by assumption)]; rfl))
  · refine q_impl_Tapered_L0 _ _ _ _ ?_
    repeat' (first | with_reducible refine T.ok_ob ?_ (fun _ => ?_) | with_reducible refine T.ok_ite (fun _ => ?_) (fun _ => ?_) | with_reducible refine T.ok_leaf ?_)
    all_goals (try simp only [decide_eq_true_eq, decide_eq_false_iff_not, Bool.not_eq_true', Bool.not_eq_false', Bool.not_eq_eq_eq_not, Bool.not_true, Bool.not_false, Int.toNat_natCast, tab_len, List.length_append, List.length_singleton, List.length_cons, List.length_nil, List.length_drop, List.length_take, getD_drop', getD_nat, reduceCtorEq] at *)
    all_goals (try simp (disch := omega) only [wrap64_id] at *)
    all_goals first | omega | (exfalso; omega) | exact True.intro | skip
    all_goals rfl
theorem k_spec_Tapered {P : Program} {f g1 g2 g3 g4 g5 : FuncId} (h : Is_spec_Tapered P f g1 g2 g3 g4 g5) (c1 : C_spec_l02Series P g1) (c2 : C_spec_l00In P g2) (c3 : C_spec_l01Phasor P g3) (c4 : C_spec_l03Size P g4) (c5 : C_spec_l03Given P g5) : C_spec_Tapered P f := by
  intro a kind hx
  refine q_spec_Tapered h a kind ?_
  cases hs : seriesM a
  · repeat' (first | with_reducible refine T.ok_ob ?_ (fun _ => ?_) | with_reducible refine T.ok_ite (fun _ => ?_) (fun _ => ?_) | with_reducible refine T.ok_leaf ?_)
    all_goals first | exact hs ▸ c1 _ hx | contradiction | (simp [tpOk, hs]; done)
  cases hi : inM kind 0 2
  · repeat' (first | with_reducible refine T.ok_ob ?_ (fun _ => ?_) | with_reducible refine T.ok_ite (fun _ => ?_) (fun _ => ?_) | with_reducible refine T.ok_leaf ?_)
    all_goals first | exact hs ▸ c1 _ hx | exact hi ▸ c2 _ _ _ | contradiction | (simp [tpOk, hs, hi]; done)
  have hl := series_len hs
  have c5 := c5 (tpM a kind a.length) (by rw [tp_len, maxLen_eq]; omega)
  repeat' (first | with_reducible refine T.ok_ob ?_ (fun _ => ?_) | with_reducible refine T.ok_ite (fun _ => ?_) (fun _ => ?_) | with_reducible refine T.ok_leaf ?_)
  all_goals first | exact hs ▸ c1 _ hx | exact hi ▸ c2 _ _ _ | contradiction | exact c5 | (simp [tpOk, hs, hi, ifAllM]; done) | skip
  refine for_up (e := .exit 0) a.length (fun i => h_spec_Tapered_L0 a kind (tpM a kind i) i) rfl (fun i hi => ?_) ?_
  · refine q_spec_Tapered_L0 _ _ _ _ ?_
    have tl := tp_len a kind i
    have d3 := c3 (fconv .f32 .f64 (tpT a.length i))
    have d4 := c4 (fsub .f32 (fmul .f32 1073741824 (tpT a.length i)) 1065353216)
    rw [show fdiv .f32 (fadd .f32 (fofi .f32 (i : Int)) 1056964608) (fofi .f32 (a.length : Int)) = tpT a.length i from rfl]
    rw [tp_succ]
    have es := less_size (fsub_fw .f32 (fmul .f32 1073741824 (tpT a.length i)) 1065353216)
    rw [← es]
    repeat' (first | with_reducible refine T.ok_ob ?_ (fun _ => ?_) | with_reducible refine T.ok_ite (fun _ => ?_) (fun _ => ?_) | with_reducible refine T.ok_leaf ?_)
    all_goals (try simp only [decide_eq_true_eq, decide_eq_false_iff_not, Bool.not_eq_true', Bool.not_eq_false', Bool.not_eq_eq_eq_not, Bool.not_true, Bool.not_false, Int.toNat_natCast, tab_len, List.length_append, List.length_singleton, List.length_cons, List.length_nil, List.length_drop, List.length_take, getD_drop', getD_nat, reduceCtorEq] at *)
    all_goals (try simp (disch := omega) only [wrap64_id] at *)
    all_goals first | omega | (exfalso; omega) | exact True.intro | skip
    all_goals first | exact fconvOk_32_64 _ | exact d3 | exact d4 | (simp only [beq_iff_eq, beq_eq_false_iff_ne] at *; first | (exfalso; omega) | (rw [tp_1 (by assumption)]; rfl) | (rw [tp_2 (by assumption)]; rfl) | (rw [tp_3 (by assumption) (by assumption)]; rfl))
  · refine q_spec_Tapered_L0 _ _ _ _ ?_
    repeat' (first | with_reducible refine T.ok_ob ?_ (fun _ => ?_) | with_reducible refine T.ok_ite (fun _ => ?_) (fun _ => ?_) | with_reducible refine T.ok_leaf ?_)
    all_goals (try simp only [decide_eq_true_eq, decide_eq_false_iff_not, Bool.not_eq_true', Bool.not_eq_false', Bool.not_eq_eq_eq_not, Bool.not_true, Bool.not_false, Int.toNat_natCast, tab_len, List.length_append, List.length_singleton, List.length_cons, List.length_nil, List.length_drop, List.length_take, getD_drop', getD_nat, reduceCtorEq] at *)
    all_goals (try simp (disch := omega) only [wrap64_id] at *)
    all_goals first | omega | (exfalso; omega) | exact True.intro | skip
    all_goals rfl

/-! ### harmonics -/
theorem read_place {x m : Nat} {s : Bool} {e : Int} (h : rung Ieee.single x < Ieee.single.infRung) (hr : Ieee.single.read x = .number s m e) : (e - Ieee.single.leastPlace).toNat ≤ 253 ∧ Ieee.single.leastPlace ≤ e := by
  unfold Ieee.Format.read at hr
  unfold rung at h
  simp only at hr
  have hB : Ieee.single.binade = 2 ^ 23 := by decide
  have hI : Ieee.single.infRung = 255 * 2 ^ 23 := by decide
  split at hr
  · cases hr; omega
  · cases hr
    have h2 : x % Ieee.single.signWeight / Ieee.single.binade < 255 := Nat.div_lt_of_lt_mul (by rw [hB, Nat.mul_comm]; omega)
    omega
theorem word_self {x : Nat} (h : x < 2 ^ 32) : Ieee.single.word (sign Ieee.single x) (rung Ieee.single x) = x := by
  have hS : Ieee.single.signWeight = 2 ^ 31 := by decide
  unfold Ieee.Format.word sign rung
  rw [hS]
  have h1 : x / 2 ^ 31 < 2 := by omega
  rcases (show x / 2 ^ 31 = 0 ∨ x / 2 ^ 31 = 1 by omega) with h2 | h2
  · rw [h2]; simp; omega
  · rw [h2]; simp; omega
theorem read_one : Ieee.single.read 1065353216 = .number false (2 ^ 23) (-23) := by decide +kernel
theorem mul_near {x y m n : Nat} {s t : Bool} {i j : Int} (e : Ieee.single.read x = .number s m i) (e2 : Ieee.single.read y = .number t n j) : fmul .f32 x y = Ieee.single.nearest (s ^^ t) (m * n) (i + j) := by
  unfold fmul Ieee.Format.mul
  simp only [FloatKind.format]
  rw [e, e2]
  rfl
/-- times one -/
theorem mul_one' {x : Nat} (hw : x < 2 ^ 32) (hf : finM x = true) : fmul .f32 x 1065353216 = x := by
  rw [finM_iff] at hf
  have hf := of_decide_eq_true hf
  obtain ⟨m, p, e, hu⟩ := read_num (f := Ieee.single) hf
  obtain ⟨h1, _⟩ := read_place hf e
  have hm := (read32_bounds e).1
  have ep := mul_near e read_one
  rw [ep, Bool.xor_false]
  have es := nearest_shift Ieee.single (sign Ieee.single x) m (Ieee.single.leastPlace + (p : Nat)) 23
  rw [show Ieee.single.leastPlace + (p : Int) + -23 = Ieee.single.leastPlace + (p : Int) - ((23 : Nat) : Int) by omega, es]
  have hB : Ieee.single.binade = 2 ^ 23 := by decide
  have hI : Ieee.single.infRung = 255 * 2 ^ 23 := by decide
  have hB0 := binade_pos Ieee.single
  have fin : ∀ r, Ieee.single.nearest (sign Ieee.single x) m (Ieee.single.leastPlace + (p : Nat)) = Ieee.single.word (sign Ieee.single x) r → units Ieee.single.binade r = units Ieee.single.binade (rung Ieee.single x) → Ieee.single.nearest (sign Ieee.single x) m (Ieee.single.leastPlace + (p : Nat)) = x := by
    intro r h2 h3
    rw [h2, units_inj hB0 h3]; exact word_self hw
  by_cases h0 : m = 0
  · subst h0
    refine fin 0 (by unfold Ieee.Format.nearest; rw [if_pos rfl]) ?_
    rw [← hu, units_zero hB0, Nat.zero_mul]
  · rw [show (Ieee.single.leastPlace + (p : Int) - Ieee.single.leastPlace).toNat = p by omega] at h1
    obtain ⟨r, h2, _, h3⟩ := nearest_exact Ieee.single (sign Ieee.single x) m (Ieee.single.leastPlace + (p : Nat)) h0 (by rw [hB]; omega) (by omega) (by rw [show (Ieee.single.leastPlace + (p : Int) - Ieee.single.leastPlace).toNat = p by omega, hB, hI]; omega)
    rw [show (Ieee.single.leastPlace + (p : Int) - Ieee.single.leastPlace).toNat = p by omega, hu] at h3
    exact fin r h2 h3

theorem hm_len (p : Nat) (at0 : Int) : ∀ n, (hmL p at0 n).length = 2 * n + 1
  | 0 => rfl
  | n + 1 => by show (hmL p at0 n ++ [_, _]).length = _; rw [List.length_append, hm_len p at0 n]; simp; omega
theorem mul_in {g at0 : Int} (h1 : 0 ≤ g) (h2 : g ≤ 100) (h3 : -1000 ≤ at0) (h4 : at0 ≤ 1000) : -100000 ≤ g * at0 ∧ g * at0 ≤ 100000 := by
  have a := Int.mul_le_mul_of_nonneg_left h4 h1
  have b := Int.mul_le_mul_of_nonneg_left h3 h1
  omega
theorem tmod_zero (n : Nat) : (Int.tmod (n : Int) 2 == 0) = !(decide (n % 2 = 1)) := by
  rw [Int.tmod_eq_emod_of_nonneg (by omega)]
  by_cases h : n % 2 = 1
  · rw [decide_eq_true h, show ((n : Int) % 2) = 1 by omega]; rfl
  · rw [decide_eq_false h, show ((n : Int) % 2) = 0 by omega]; rfl
def haP (ts : List Nat) (p : Nat) (at0 : Int) : Nat → Nat
  | 0 => fadd .f32 0 (ts.getD 0 0)
  | n + 1 => fadd .f32 (fadd .f32 (haP ts p at0 n) (fmul .f32 (wvM ((n + 1 : Nat) : Int) at0 p).1 (ts.getD (2 * (n + 1) - 1) 0))) (fmul .f32 (wvM ((n + 1 : Nat) : Int) at0 p).2 (ts.getD (2 * (n + 1)) 0))
theorem getD_l {xs ys : List Nat} {i : Nat} (h : i < xs.length) : (xs ++ ys).getD i 0 = xs.getD i 0 := by
  rw [List.getD_eq_getElem?_getD, List.getD_eq_getElem?_getD, List.getElem?_append_left h]
theorem getD_r {xs ys : List Nat} {i : Nat} (h : xs.length ≤ i) : (xs ++ ys).getD i 0 = ys.getD (i - xs.length) 0 := by
  rw [List.getD_eq_getElem?_getD, List.getD_eq_getElem?_getD, List.getElem?_append_right h]
theorem hm_get (p : Nat) (at0 : Int) : ∀ (n k : Nat), k < n → (hmL p at0 n).getD (2 * k + 1) 0 = (wvM ((k + 1 : Nat) : Int) at0 p).1 ∧ (hmL p at0 n).getD (2 * k + 2) 0 = (wvM ((k + 1 : Nat) : Int) at0 p).2
  | n + 1, k, h => by
    have hl := hm_len p at0 n
    have e : hmL p at0 (n + 1) = hmL p at0 n ++ [(wvM ((n + 1 : Nat) : Int) at0 p).1, (wvM ((n + 1 : Nat) : Int) at0 p).2] := rfl
    rw [e]
    by_cases hk : k < n
    · rw [getD_l (by omega), getD_l (by omega)]
      exact hm_get p at0 n k hk
    · have hk : k = n := by omega
      subst hk
      rw [getD_r (by omega), getD_r (by omega), hl, show 2 * k + 1 - (2 * k + 1) = 0 by omega, show 2 * k + 2 - (2 * k + 1) = 1 by omega]
      exact ⟨rfl, rfl⟩
theorem ha_sum {ts : List Nat} {p : Nat} {at0 : Int} (h0 : fmul .f32 (ts.getD 0 0) 1065353216 = ts.getD 0 0) (m : Nat) : ∀ n, n ≤ m → accN (fun i s => fadd .f32 s (fmul .f32 (ts.getD i 0) ((hmL p at0 m).getD i 0))) (2 * n + 1) 0 = haP ts p at0 n
  | 0, _ => by
    have e : (hmL p at0 m).getD 0 0 = 1065353216 := by
      induction m with
      | zero => rfl
      | succ m ih => show (hmL p at0 m ++ _).getD 0 0 = _; rw [getD_l (by rw [hm_len]; omega)]; exact ih (by omega)
    show fadd .f32 0 (fmul .f32 (ts.getD 0 0) ((hmL p at0 m).getD 0 0)) = _
    rw [e, h0]; rfl
  | n + 1, hn => by
    obtain ⟨g1, g2⟩ := hm_get p at0 m n (by omega)
    have ih := ha_sum (p := p) (at0 := at0) h0 m n (by omega)
    rw [show 2 * (n + 1) + 1 = 2 * n + 1 + 1 + 1 by omega]
    generalize hF : (fun i s => fadd .f32 s (fmul .f32 (ts.getD i 0) ((hmL p at0 m).getD i 0))) = F at ih ⊢
    have e : accN F (2 * n + 1 + 1 + 1) 0 = F (2 * n + 1 + 1) (F (2 * n + 1) (accN F (2 * n + 1) 0)) := rfl
    rw [e, ih, ← hF]
    simp only
    rw [g1, show 2 * n + 1 + 1 = 2 * n + 2 by omega, g2, fmul_comm .f32 (ts.getD (2 * n + 1) 0), fmul_comm .f32 (ts.getD (2 * n + 2) 0)]
    rfl

end Go.Proofs.LV
