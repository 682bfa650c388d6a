/- One step of smoothing. -/
import Derived.Test.YtdjjpckpcfkgiaaLvFnO
import Derived.Test.YtdjjpckpcfkgiaaLvFnL
import Derived.Test.YtdjjpckpcfkgiaaLvBad
namespace Go.Proofs.LV
open Go
set_option linter.unusedVariables false
set_option linter.unusedSimpArgs false

def ssE (l s : Nat) (xs : List Nat) (t : Int) (d x : Nat) : Nat := fsub .f32 x (guessM l s xs t d)
def ssL (l s : Nat) (xs : List Nat) (t : Int) (a b c d x : Nat) : Nat := fadd .f32 (fadd .f32 l (fmul .f32 d s)) (fmul .f32 a (ssE l s xs t d x))
def ssS (l s : Nat) (xs : List Nat) (t : Int) (a b c d x : Nat) : Nat := fadd .f32 (fmul .f32 d s) (fmul .f32 (fmul .f32 a b) (ssE l s xs t d x))
def ssX (l s : Nat) (xs : List Nat) (t : Int) (a b c d x : Nat) : List Nat := xs.set t.toNat (fadd .f32 (xs.getD t.toNat 0) (fmul .f32 (fmul .f32 c (fsub .f32 1065353216 a)) (ssE l s xs t d x)))
def ssT (xs : List Nat) (t : Int) : Int := Int.tmod (IntKind.wrap .i64 (t + 1)) xs.length
def ssOk (l s : Nat) (xs : List Nat) (t : Int) (a b c d x : Nat) : Bool := (validStateM l s xs t && sharesM a b c d) && (finM x && (validStateM (ssL l s xs t a b c d x) (ssS l s xs t a b c d x) (ssX l s xs t a b c d x) (ssT xs t) && finM (ssE l s xs t d x)))

-- FN spec_l04Own
/-- spec.l04Own: slots 22, results [.row 2 4]; calls []; names [(s, 0), (s, 1)] -/
def ps_spec_l04Own : List Nat := [0, 2]
def b_spec_l04Own : VCode :=
  (.seq
   (.region false [
    ⟨some 2, (.alloc [(.f .f32 0), (.f .f32 0), (.sl .imm 0 (.f .f32 [])), (.i .i64 0)]), [], none⟩])
   (.seq
    (.region true [
     ⟨some 3, .mv, [.t 0], none⟩,
     ⟨some 4, .nilck, [.t 3], none⟩,
     ⟨some 5, (.faddr 0), [.t 4], none⟩,
     ⟨some 6, .load, [.t 5], none⟩,
     ⟨some 7, .mv, [.t 0], none⟩,
     ⟨some 8, .nilck, [.t 7], none⟩,
     ⟨some 9, (.faddr 1), [.t 8], none⟩,
     ⟨some 10, .load, [.t 9], none⟩,
     ⟨some 11, (.nilsl (.f .f32 [])), [], none⟩,
     ⟨some 12, .mv, [.t 0], none⟩,
     ⟨some 13, .nilck, [.t 12], none⟩,
     ⟨some 14, (.faddr 2), [.t 13], none⟩,
     ⟨some 15, .load, [.t 14], none⟩,
     ⟨some 16, .arr, [.t 11, .t 15], none⟩,
     ⟨some 17, .mv, [.t 0], none⟩,
     ⟨some 18, .nilck, [.t 17], none⟩,
     ⟨some 19, (.faddr 3), [.t 18], none⟩,
     ⟨some 20, .load, [.t 19], none⟩,
     ⟨some 21, (.build [(.f .f32 0), (.f .f32 0), (.sl .nil 0 (.f .f32 [])), (.i .i64 0)] [0, 1, 2, 3]), [.t 6, .t 10, .t 16, .t 20], none⟩,
     ⟨none, (.storeN 4), [.t 2, .t 21], none⟩])
    .ret))

abbrev Is_spec_l04Own (P : Program) (g_f : FuncId) : Prop := FnIs P g_f 22 [.row 2 4] (b_spec_l04Own)

abbrev C_spec_l04Own (P : Program) (g_f : FuncId) : Prop := ∀ (l : Nat) (s : Nat) (xs : List Nat) (t : Int) (hx : xs.length ≤ 1000), VCall P g_f [.bx (.par [0]) (ST (.par [0, 2]) l s xs t)] (.agg (ST (.own 0) l s xs t))
def oc1_spec_l04Own (as : List AV) : T AV := match as with | [.bx _ [.f _ l, .f _ s, .sl _ _ (.f _ xs), .i _ t]] => .leaf (.agg (ST (.own 0) l s xs t)) | _ => .fail



theorem q_spec_l04Own {P : Program} {g_f : FuncId} (h_ : Is_spec_l04Own P g_f) (l : Nat) (s : Nat) (xs : List Nat) (t : Int) (ht : T.ok (fun x_ => x_ = .agg (ST (.own 0) l s xs t)) (
      T.ob (List.length xs ≤ 4294967296) (T.ob (false = false) (T.leaf (AV.agg [AV.f FloatKind.f32 l, AV.f FloatKind.f32 s, AV.sl (Tag.own 0) 0 (Cont.f FloatKind.f32 xs), AV.i IntKind.i64 t]))))) :
    VCall P g_f [.bx (.par [0]) (ST (.par [0, 2]) l s xs t)] (.agg (ST (.own 0) l s xs t)) := h_.call_of ps_spec_l04Own ⟨fun _ _ => .fail, fun _ _ => none⟩ (by kernel_rfl) ht

-- END spec_l04Own
-- FN spec_l04Step
/-- spec.l04Step: slots 105, results [.row 6 4, .t 7]; calls [13:g_spec_l04Guess, 16:g_spec_l04Own]; names [(s, 0), (h, 1), (x, 2), (s, 3), (h, 4), (x, 5), (e, 8), (out, 9)] -/
def ps_spec_l04Step : List Nat := [0, 1, 2, 6, 7, 8, 9]
def b_spec_l04Step (g_spec_l04Guess g_spec_l04Own : FuncId) : VCode :=
  (.seq
   (.region false [
    ⟨some 6, (.alloc [(.f .f32 0), (.f .f32 0), (.sl .imm 0 (.f .f32 [])), (.i .i64 0)]), [], none⟩,
    ⟨some 7, .mv, [.k (.f .f32 0)], none⟩])
   (.seq
    (.region false [
     ⟨some 10, .mv, [.t 2], none⟩,
     ⟨some 11, .mv, [.t 0], none⟩,
     ⟨some 12, .mv, [.t 1], none⟩,
     ⟨some 13, (.call g_spec_l04Guess), [.t 11, .t 12], none⟩,
     ⟨some 14, (.bin .sub), [.t 10, .t 13], none⟩,
     ⟨some 8, .mv, [.t 14], none⟩])
    (.seq
     (.region false [
      ⟨some 15, .mv, [.t 0], none⟩,
      ⟨some 16, (.call g_spec_l04Own), [.t 15], none⟩,
      ⟨some 9, (.alloc [(.f .f32 0), (.f .f32 0), (.sl .imm 0 (.f .f32 [])), (.i .i64 0)]), [], none⟩,
      ⟨none, (.storeN 4), [.t 9, .t 16], none⟩])
     (.seq
      (.region true [
       ⟨some 17, .mv, [.t 0], none⟩,
       ⟨some 18, .nilck, [.t 17], none⟩,
       ⟨some 19, (.faddr 0), [.t 18], none⟩,
       ⟨some 20, .load, [.t 19], none⟩,
       ⟨some 21, .mv, [.t 1], none⟩,
       ⟨some 22, .nilck, [.t 21], none⟩,
       ⟨some 23, (.faddr 3), [.t 22], none⟩,
       ⟨some 24, .load, [.t 23], none⟩,
       ⟨some 25, .mv, [.t 0], none⟩,
       ⟨some 26, .nilck, [.t 25], none⟩,
       ⟨some 27, (.faddr 1), [.t 26], none⟩,
       ⟨some 28, .load, [.t 27], none⟩,
       ⟨some 29, (.bin .mul), [.t 24, .t 28], none⟩,
       ⟨some 30, (.bin .add), [.t 20, .t 29], none⟩,
       ⟨some 31, .mv, [.t 1], none⟩,
       ⟨some 32, .nilck, [.t 31], none⟩,
       ⟨some 33, (.faddr 0), [.t 32], none⟩,
       ⟨some 34, .load, [.t 33], none⟩,
       ⟨some 35, .mv, [.t 8], none⟩,
       ⟨some 36, (.bin .mul), [.t 34, .t 35], none⟩,
       ⟨some 37, (.bin .add), [.t 30, .t 36], none⟩,
       ⟨some 38, (.faddr 0), [.t 9], none⟩,
       ⟨none, .store, [.t 38, .t 37], none⟩])
      (.seq
       (.region true [
        ⟨some 39, .mv, [.t 1], none⟩,
        ⟨some 40, .nilck, [.t 39], none⟩,
        ⟨some 41, (.faddr 3), [.t 40], none⟩,
        ⟨some 42, .load, [.t 41], none⟩,
        ⟨some 43, .mv, [.t 0], none⟩,
        ⟨some 44, .nilck, [.t 43], none⟩,
        ⟨some 45, (.faddr 1), [.t 44], none⟩,
        ⟨some 46, .load, [.t 45], none⟩,
        ⟨some 47, (.bin .mul), [.t 42, .t 46], none⟩,
        ⟨some 48, .mv, [.t 1], none⟩,
        ⟨some 49, .nilck, [.t 48], none⟩,
        ⟨some 50, (.faddr 0), [.t 49], none⟩,
        ⟨some 51, .load, [.t 50], none⟩,
        ⟨some 52, .mv, [.t 1], none⟩,
        ⟨some 53, .nilck, [.t 52], none⟩,
        ⟨some 54, (.faddr 1), [.t 53], none⟩,
        ⟨some 55, .load, [.t 54], none⟩,
        ⟨some 56, (.bin .mul), [.t 51, .t 55], none⟩,
        ⟨some 57, .mv, [.t 8], none⟩,
        ⟨some 58, (.bin .mul), [.t 56, .t 57], none⟩,
        ⟨some 59, (.bin .add), [.t 47, .t 58], none⟩,
        ⟨some 60, (.faddr 1), [.t 9], none⟩,
        ⟨none, .store, [.t 60, .t 59], none⟩])
       (.seq
        (.region true [
         ⟨some 61, (.faddr 2), [.t 9], none⟩,
         ⟨some 62, .load, [.t 61], none⟩,
         ⟨some 63, .mv, [.t 0], none⟩,
         ⟨some 64, .nilck, [.t 63], none⟩,
         ⟨some 65, (.faddr 3), [.t 64], none⟩,
         ⟨some 66, .load, [.t 65], none⟩,
         ⟨some 67, .mv, [.t 0], none⟩,
         ⟨some 68, .nilck, [.t 67], none⟩,
         ⟨some 69, (.faddr 2), [.t 68], none⟩,
         ⟨some 70, .load, [.t 69], none⟩,
         ⟨some 71, .mv, [.t 0], none⟩,
         ⟨some 72, .nilck, [.t 71], none⟩,
         ⟨some 73, (.faddr 3), [.t 72], none⟩,
         ⟨some 74, .load, [.t 73], none⟩,
         ⟨some 75, .iaddr, [.t 70, .t 74], none⟩,
         ⟨some 76, .load, [.t 75], none⟩,
         ⟨some 77, .mv, [.t 1], none⟩,
         ⟨some 78, .nilck, [.t 77], none⟩,
         ⟨some 79, (.faddr 2), [.t 78], none⟩,
         ⟨some 80, .load, [.t 79], none⟩,
         ⟨some 81, .mv, [.t 1], none⟩,
         ⟨some 82, .nilck, [.t 81], none⟩,
         ⟨some 83, (.faddr 0), [.t 82], none⟩,
         ⟨some 84, .load, [.t 83], none⟩,
         ⟨some 85, (.bin .sub), [.k (.f .f32 1065353216), .t 84], none⟩,
         ⟨some 86, (.bin .mul), [.t 80, .t 85], none⟩,
         ⟨some 87, .mv, [.t 8], none⟩,
         ⟨some 88, (.bin .mul), [.t 86, .t 87], none⟩,
         ⟨some 89, (.bin .add), [.t 76, .t 88], none⟩,
         ⟨some 90, .iaddr, [.t 62, .t 66], none⟩,
         ⟨none, .store, [.t 90, .t 89], none⟩])
        (.seq
         (.region true [
          ⟨some 91, .mv, [.t 0], none⟩,
          ⟨some 92, .nilck, [.t 91], none⟩,
          ⟨some 93, (.faddr 3), [.t 92], none⟩,
          ⟨some 94, .load, [.t 93], none⟩,
          ⟨some 95, (.bin .add), [.t 94, .k (.i .i64 1)], none⟩,
          ⟨some 96, .mv, [.t 0], none⟩,
          ⟨some 97, .nilck, [.t 96], none⟩,
          ⟨some 98, (.faddr 2), [.t 97], none⟩,
          ⟨some 99, .load, [.t 98], none⟩,
          ⟨some 100, .len, [.t 99], none⟩,
          ⟨some 101, (.bin .rem), [.t 95, .t 100], none⟩,
          ⟨some 102, (.faddr 3), [.t 9], none⟩,
          ⟨none, .store, [.t 102, .t 101], none⟩])
         (.seq
          (.region false [
           ⟨some 103, (.loadN 4), [.t 9], none⟩,
           ⟨some 104, .mv, [.t 8], none⟩,
           ⟨none, (.storeN 4), [.t 6, .t 103], none⟩,
           ⟨some 7, .mv, [.t 104], none⟩])
          .ret))))))))

abbrev Is_spec_l04Step (P : Program) (g_f : FuncId) (g_spec_l04Guess g_spec_l04Own : FuncId) : Prop := FnIs P g_f 105 [.row 6 4, .t 7] (b_spec_l04Step g_spec_l04Guess g_spec_l04Own)

abbrev C_spec_l04Step (P : Program) (g_f : FuncId) : Prop := ∀ (l : Nat) (s : Nat) (xs : List Nat) (t : Int) (a : Nat) (b : Nat) (c : Nat) (d : Nat) (x : Nat) (ht : 0 ≤ t ∧ t < xs.length) (hx : xs.length ≤ 1000), VCall P g_f [.bx (.par [0]) (ST (.par [0, 2]) l s xs t), .bx (.par [1]) (F4 a b c d), .f .f32 x] (.tup [.agg (ST (.own 0) (ssL l s xs t a b c d x) (ssS l s xs t a b c d x) (ssX l s xs t a b c d x) (ssT xs t)), .f .f32 (ssE l s xs t d x)])
def oc1_spec_l04Step (as : List AV) : T AV := match as with | [.bx _ [.f _ l, .f _ s, .sl _ _ (.f _ xs), .i _ t], .bx _ [.f _ a, .f _ b, .f _ c, .f _ d], .f .f32 x] => .leaf (.tup [.agg (ST (.own 0) (ssL l s xs t a b c d x) (ssS l s xs t a b c d x) (ssX l s xs t a b c d x) (ssT xs t)), .f .f32 (ssE l s xs t d x)]) | _ => .fail
def oc_spec_l04Step (l : Nat) (s : Nat) (xs : List Nat) (t : Int) (a : Nat) (b : Nat) (c : Nat) (d : Nat) (x : Nat) (d : Nat) (as : List AV) : T AV := match d with | 13 => oc1_spec_l04Guess as | 16 => oc1_spec_l04Own as | _ => .fail



theorem q_spec_l04Step {P : Program} {g_f : FuncId} {g_spec_l04Guess g_spec_l04Own : FuncId} (h_ : Is_spec_l04Step P g_f g_spec_l04Guess g_spec_l04Own) (l : Nat) (s : Nat) (xs : List Nat) (t : Int) (a : Nat) (b : Nat) (c : Nat) (d : Nat) (x : Nat) (ht : T.ok (fun x_ => x_ = .tup [.agg (ST (.own 0) (ssL l s xs t a b c d x) (ssS l s xs t a b c d x) (ssX l s xs t a b c d x) (ssT xs t)), .f .f32 (ssE l s xs t d x)]) (
      T.ob
        ((VCall P) g_spec_l04Guess
          [AV.bx (Tag.par [0]) [AV.f FloatKind.f32 l, AV.f FloatKind.f32 s, AV.sl (Tag.par [0, 2]) 0 (Cont.f FloatKind.f32 xs), AV.i IntKind.i64 t],
            AV.bx (Tag.par [1]) [AV.f FloatKind.f32 a, AV.f FloatKind.f32 b, AV.f FloatKind.f32 c, AV.f FloatKind.f32 d]]
          (AV.f FloatKind.f32 (guessM l s xs t d)))
        (T.ob
          ((VCall P) g_spec_l04Own [AV.bx (Tag.par [0]) [AV.f FloatKind.f32 l, AV.f FloatKind.f32 s, AV.sl (Tag.par [0, 2]) 0 (Cont.f FloatKind.f32 xs), AV.i IntKind.i64 t]]
            (AV.agg [AV.f FloatKind.f32 l, AV.f FloatKind.f32 s, AV.sl (Tag.own 0) 0 (Cont.f FloatKind.f32 xs), AV.i IntKind.i64 t]))
          (T.ob (false = false)
            (T.ob (false = false)
              (T.ob (false = false)
                (T.ob (0 ≤ t ∧ t < (↑(List.length xs) : Int))
                  (T.ob (0 ≤ t ∧ t < (↑(List.length xs) : Int))
                    (T.ob (false = false)
                      (T.ob ((↑(List.length xs) : Int) ≠ 0)
                        (T.ob (false = false)
                          (T.ob (false = false)
                            (T.leaf
                              (AV.tup
                                [AV.agg
                                    [AV.f FloatKind.f32 (fadd FloatKind.f32 (fadd FloatKind.f32 l (fmul FloatKind.f32 d s)) (fmul FloatKind.f32 a (fsub FloatKind.f32 x (guessM l s xs t d)))),
                                      AV.f FloatKind.f32 (fadd FloatKind.f32 (fmul FloatKind.f32 d s) (fmul FloatKind.f32 (fmul FloatKind.f32 a b) (fsub FloatKind.f32 x (guessM l s xs t d)))),
                                      AV.sl (Tag.own 0) 0
                                        (Cont.f FloatKind.f32
                                          (List.set xs (0 + Int.toNat t - 0)
                                            (fadd FloatKind.f32 (List.getD xs (Int.toNat t) 0) (fmul FloatKind.f32 (fmul FloatKind.f32 c (fsub FloatKind.f32 1065353216 a)) (fsub FloatKind.f32 x (guessM l s xs t d)))))),
                                      AV.i IntKind.i64 (Int.tmod (IntKind.wrap IntKind.i64 (t + 1)) (↑(List.length xs) : Int))],
                                  AV.f FloatKind.f32 (fsub FloatKind.f32 x (guessM l s xs t d))])))))))))))))) :
    VCall P g_f [.bx (.par [0]) (ST (.par [0, 2]) l s xs t), .bx (.par [1]) (F4 a b c d), .f .f32 x] (.tup [.agg (ST (.own 0) (ssL l s xs t a b c d x) (ssS l s xs t a b c d x) (ssX l s xs t a b c d x) (ssT xs t)), .f .f32 (ssE l s xs t d x)]) := h_.call_of ps_spec_l04Step ⟨oc_spec_l04Step l s xs t a b c d x, fun _ _ => none⟩ (by kernel_rfl) ht

-- END spec_l04Step
-- FN impl_State__step
/-- impl.State).step: slots 73, results [.row 6 4, .t 7]; calls [14:g_impl_State__guess, 41:g_slices_Clone___float32_float32_]; names [(s, 0), (h, 1), (x, 2), (s, 3), (h, 4), (x, 5), (e, 8), (slope, 9), (next, 10)] -/
def ps_impl_State__step : List Nat := [0, 1, 2, 3, 4, 6, 7, 8, 9, 10]
def b_impl_State__step (g_impl_State__guess g_slices_Clone___float32_float32_ : FuncId) : VCode :=
  (.seq
   (.region false [
    ⟨some 3, .boxN, [.t 0], none⟩,
    ⟨some 4, .boxN, [.t 1], none⟩,
    ⟨some 6, (.alloc [(.f .f32 0), (.f .f32 0), (.sl .imm 0 (.f .f32 [])), (.i .i64 0)]), [], none⟩,
    ⟨some 7, .mv, [.k (.f .f32 0)], none⟩])
   (.seq
    (.region false [
     ⟨some 11, .mv, [.t 2], none⟩,
     ⟨some 12, (.loadN 4), [.t 3], none⟩,
     ⟨some 13, (.loadN 4), [.t 4], none⟩,
     ⟨some 14, (.call g_impl_State__guess), [.t 12, .t 13], none⟩,
     ⟨some 15, (.bin .sub), [.t 11, .t 14], none⟩,
     ⟨some 8, .mv, [.t 15], none⟩])
    (.seq
     (.region false [
      ⟨some 16, (.faddr 3), [.t 4], none⟩,
      ⟨some 17, .load, [.t 16], none⟩,
      ⟨some 18, (.faddr 1), [.t 3], none⟩,
      ⟨some 19, .load, [.t 18], none⟩,
      ⟨some 20, (.bin .mul), [.t 17, .t 19], none⟩,
      ⟨some 9, .mv, [.t 20], none⟩])
     (.seq
      (.region true [
       ⟨some 21, (.faddr 0), [.t 3], none⟩,
       ⟨some 22, .load, [.t 21], none⟩,
       ⟨some 23, .mv, [.t 9], none⟩,
       ⟨some 24, (.bin .add), [.t 22, .t 23], none⟩,
       ⟨some 25, (.faddr 0), [.t 4], none⟩,
       ⟨some 26, .load, [.t 25], none⟩,
       ⟨some 27, .mv, [.t 8], none⟩,
       ⟨some 28, (.bin .mul), [.t 26, .t 27], none⟩,
       ⟨some 29, (.bin .add), [.t 24, .t 28], none⟩,
       ⟨some 30, .mv, [.t 9], none⟩,
       ⟨some 31, (.faddr 0), [.t 4], none⟩,
       ⟨some 32, .load, [.t 31], none⟩,
       ⟨some 33, (.faddr 1), [.t 4], none⟩,
       ⟨some 34, .load, [.t 33], none⟩,
       ⟨some 35, (.bin .mul), [.t 32, .t 34], none⟩,
       ⟨some 36, .mv, [.t 8], none⟩,
       ⟨some 37, (.bin .mul), [.t 35, .t 36], none⟩,
       ⟨some 38, (.bin .add), [.t 30, .t 37], none⟩,
       ⟨some 39, (.faddr 2), [.t 3], none⟩,
       ⟨some 40, .load, [.t 39], none⟩,
       ⟨some 41, (.call g_slices_Clone___float32_float32_), [.t 40], none⟩,
       ⟨some 42, (.build [(.f .f32 0), (.f .f32 0), (.sl .nil 0 (.f .f32 [])), (.i .i64 0)] [0, 1, 2]), [.t 29, .t 38, .t 41], none⟩,
       ⟨some 10, (.alloc [(.f .f32 0), (.f .f32 0), (.sl .imm 0 (.f .f32 [])), (.i .i64 0)]), [], none⟩,
       ⟨none, (.storeN 4), [.t 10, .t 42], none⟩])
      (.seq
       (.region true [
        ⟨some 43, (.faddr 2), [.t 10], none⟩,
        ⟨some 44, .load, [.t 43], none⟩,
        ⟨some 45, (.faddr 3), [.t 3], none⟩,
        ⟨some 46, .load, [.t 45], none⟩,
        ⟨some 47, (.faddr 2), [.t 3], none⟩,
        ⟨some 48, .load, [.t 47], none⟩,
        ⟨some 49, (.faddr 3), [.t 3], none⟩,
        ⟨some 50, .load, [.t 49], none⟩,
        ⟨some 51, .iaddr, [.t 48, .t 50], none⟩,
        ⟨some 52, .load, [.t 51], none⟩,
        ⟨some 53, (.faddr 2), [.t 4], none⟩,
        ⟨some 54, .load, [.t 53], none⟩,
        ⟨some 55, (.faddr 0), [.t 4], none⟩,
        ⟨some 56, .load, [.t 55], none⟩,
        ⟨some 57, (.bin .sub), [.k (.f .f32 1065353216), .t 56], none⟩,
        ⟨some 58, (.bin .mul), [.t 54, .t 57], none⟩,
        ⟨some 59, .mv, [.t 8], none⟩,
        ⟨some 60, (.bin .mul), [.t 58, .t 59], none⟩,
        ⟨some 61, (.bin .add), [.t 52, .t 60], none⟩,
        ⟨some 62, .iaddr, [.t 44, .t 46], none⟩,
        ⟨none, .store, [.t 62, .t 61], none⟩])
       (.seq
        (.region false [
         ⟨some 63, (.faddr 3), [.t 3], none⟩,
         ⟨some 64, .load, [.t 63], none⟩,
         ⟨some 65, (.bin .add), [.t 64, .k (.i .i64 1)], none⟩,
         ⟨some 66, (.faddr 2), [.t 3], none⟩,
         ⟨some 67, .load, [.t 66], none⟩,
         ⟨some 68, .len, [.t 67], none⟩,
         ⟨some 69, (.bin .rem), [.t 65, .t 68], none⟩,
         ⟨some 70, (.faddr 3), [.t 10], none⟩,
         ⟨none, .store, [.t 70, .t 69], none⟩])
        (.seq
         (.region false [
          ⟨some 71, (.loadN 4), [.t 10], none⟩,
          ⟨some 72, .mv, [.t 8], none⟩,
          ⟨none, (.storeN 4), [.t 6, .t 71], none⟩,
          ⟨some 7, .mv, [.t 72], none⟩])
         .ret)))))))

abbrev Is_impl_State__step (P : Program) (g_f : FuncId) (g_impl_State__guess g_slices_Clone___float32_float32_ : FuncId) : Prop := FnIs P g_f 73 [.row 6 4, .t 7] (b_impl_State__step g_impl_State__guess g_slices_Clone___float32_float32_)

abbrev C_impl_State__step (P : Program) (g_f : FuncId) : Prop := ∀ (l : Nat) (s : Nat) (xs : List Nat) (t : Int) (a : Nat) (b : Nat) (c : Nat) (d : Nat) (x : Nat) (ht : 0 ≤ t ∧ t < xs.length) (hx : xs.length ≤ 1000), VCall P g_f [.agg (ST (.par [0, 2]) l s xs t), .agg (F4 a b c d), .f .f32 x] (.tup [.agg (ST (.own 0) (ssL l s xs t a b c d x) (ssS l s xs t a b c d x) (ssX l s xs t a b c d x) (ssT xs t)), .f .f32 (ssE l s xs t d x)])
def oc1_impl_State__step (as : List AV) : T AV := match as with | [.agg [.f _ l, .f _ s, .sl _ _ (.f _ xs), .i _ t], .agg [.f _ a, .f _ b, .f _ c, .f _ d], .f .f32 x] => .leaf (.tup [.agg (ST (.own 0) (ssL l s xs t a b c d x) (ssS l s xs t a b c d x) (ssX l s xs t a b c d x) (ssT xs t)), .f .f32 (ssE l s xs t d x)]) | _ => .fail
def oc_impl_State__step (l : Nat) (s : Nat) (xs : List Nat) (t : Int) (a : Nat) (b : Nat) (c : Nat) (d : Nat) (x : Nat) (d : Nat) (as : List AV) : T AV := match d with | 14 => oc1_impl_State__guess as | 41 => oc1_slices_Clone___float32_float32_ as | _ => .fail



theorem q_impl_State__step {P : Program} {g_f : FuncId} {g_impl_State__guess g_slices_Clone___float32_float32_ : FuncId} (h_ : Is_impl_State__step P g_f g_impl_State__guess g_slices_Clone___float32_float32_) (l : Nat) (s : Nat) (xs : List Nat) (t : Int) (a : Nat) (b : Nat) (c : Nat) (d : Nat) (x : Nat) (ht : T.ok (fun x_ => x_ = .tup [.agg (ST (.own 0) (ssL l s xs t a b c d x) (ssS l s xs t a b c d x) (ssX l s xs t a b c d x) (ssT xs t)), .f .f32 (ssE l s xs t d x)]) (
      T.ob (false = false)
        (T.ob (false = false)
          (T.ob
            ((VCall P) g_impl_State__guess
              [AV.agg [AV.f FloatKind.f32 l, AV.f FloatKind.f32 s, AV.sl (Tag.par [0, 2]) 0 (Cont.f FloatKind.f32 xs), AV.i IntKind.i64 t],
                AV.agg [AV.f FloatKind.f32 a, AV.f FloatKind.f32 b, AV.f FloatKind.f32 c, AV.f FloatKind.f32 d]]
              (AV.f FloatKind.f32 (guessM l s xs t d)))
            (T.ob ((VCall P) g_slices_Clone___float32_float32_ [AV.sl (Tag.par [0]) 0 (Cont.f FloatKind.f32 xs)] (AV.sl (Tag.own 0) 0 (Cont.f FloatKind.f32 xs)))
              (T.ob (false = false)
                (T.ob (0 ≤ t ∧ t < (↑(List.length xs) : Int))
                  (T.ob (0 ≤ t ∧ t < (↑(List.length xs) : Int))
                    (T.ob (false = false)
                      (T.ob ((↑(List.length xs) : Int) ≠ 0)
                        (T.ob (false = false)
                          (T.ob (false = false)
                            (T.leaf
                              (AV.tup
                                [AV.agg
                                    [AV.f FloatKind.f32 (fadd FloatKind.f32 (fadd FloatKind.f32 l (fmul FloatKind.f32 d s)) (fmul FloatKind.f32 a (fsub FloatKind.f32 x (guessM l s xs t d)))),
                                      AV.f FloatKind.f32 (fadd FloatKind.f32 (fmul FloatKind.f32 d s) (fmul FloatKind.f32 (fmul FloatKind.f32 a b) (fsub FloatKind.f32 x (guessM l s xs t d)))),
                                      AV.sl (Tag.own 0) 0
                                        (Cont.f FloatKind.f32
                                          (List.set xs (0 + Int.toNat t - 0)
                                            (fadd FloatKind.f32 (List.getD xs (Int.toNat t) 0) (fmul FloatKind.f32 (fmul FloatKind.f32 c (fsub FloatKind.f32 1065353216 a)) (fsub FloatKind.f32 x (guessM l s xs t d)))))),
                                      AV.i IntKind.i64 (Int.tmod (IntKind.wrap IntKind.i64 (t + 1)) (↑(List.length xs) : Int))],
                                  AV.f FloatKind.f32 (fsub FloatKind.f32 x (guessM l s xs t d))])))))))))))))) :
    VCall P g_f [.agg (ST (.par [0, 2]) l s xs t), .agg (F4 a b c d), .f .f32 x] (.tup [.agg (ST (.own 0) (ssL l s xs t a b c d x) (ssS l s xs t a b c d x) (ssX l s xs t a b c d x) (ssT xs t)), .f .f32 (ssE l s xs t d x)]) := h_.call_of ps_impl_State__step ⟨oc_impl_State__step l s xs t a b c d x, fun _ _ => none⟩ (by kernel_rfl) ht

-- END impl_State__step

-- FN impl_StepState
/-- impl.StepState: slots 49, results [.row 6 4, .t 7, .t 8]; calls [12:g_impl_ValidState, 16:g_impl_ValidShares, 21:g_impl_IsFinite, 27:g_impl_State__guess, 28:g_impl_IsFinite, 35:g_impl_State__step, 39:g_impl_ValidState, 43:g_impl_IsFinite]; names [(s, 0), (h, 1), (x, 2), (s, 3), (h, 4), (x, 5), (next, 9), (e, 10)] -/
def ps_impl_StepState : List Nat := [0, 1, 2, 3, 4, 6, 7, 8, 9, 10, 23, 29, 45]
def b_impl_StepState (g_impl_ValidState g_impl_ValidShares g_impl_IsFinite g_impl_State__guess g_impl_State__step : FuncId) : VCode :=
  (.seq
   (.region false [
    ⟨some 3, .boxN, [.t 0], none⟩,
    ⟨some 4, .boxN, [.t 1], none⟩,
    ⟨some 6, (.alloc [(.f .f32 0), (.f .f32 0), (.sl .imm 0 (.f .f32 [])), (.i .i64 0)]), [], none⟩,
    ⟨some 7, .mv, [.k (.f .f32 0)], none⟩,
    ⟨some 8, .mv, [.k (.b false)], none⟩])
   (.seq
    (.seq
     (.region false [
      ⟨some 11, (.loadN 4), [.t 3], none⟩,
      ⟨some 12, (.call g_impl_ValidState), [.t 11], none⟩,
      ⟨some 13, .not, [.t 12], none⟩,
      ⟨some 14, .mv, [.t 13], none⟩,
      ⟨some 15, (.loadN 4), [.t 4], some (14, false)⟩,
      ⟨some 16, (.call g_impl_ValidShares), [.t 15], some (14, false)⟩,
      ⟨some 17, .not, [.t 16], some (14, false)⟩,
      ⟨some 18, .pick, [.t 14, .k (.b true), .t 17], none⟩,
      ⟨some 19, .mv, [.t 18], none⟩,
      ⟨some 20, .mv, [.t 2], some (19, false)⟩,
      ⟨some 21, (.call g_impl_IsFinite), [.t 20], some (19, false)⟩,
      ⟨some 22, .not, [.t 21], some (19, false)⟩,
      ⟨some 23, .pick, [.t 19, .k (.b true), .t 22], none⟩])
     (.cond (.t 23)
      (.seq
       (.region false [
        ⟨some 24, (.build [(.f .f32 0), (.f .f32 0), (.sl .nil 0 (.f .f32 [])), (.i .i64 0)] []), [], none⟩,
        ⟨none, (.storeN 4), [.t 6, .t 24], none⟩,
        ⟨some 7, .mv, [.k (.f .f32 0)], none⟩,
        ⟨some 8, .mv, [.k (.b false)], none⟩])
       .ret)
      .skip))
    (.seq
     (.seq
      (.region false [
       ⟨some 25, (.loadN 4), [.t 3], none⟩,
       ⟨some 26, (.loadN 4), [.t 4], none⟩,
       ⟨some 27, (.call g_impl_State__guess), [.t 25, .t 26], none⟩,
       ⟨some 28, (.call g_impl_IsFinite), [.t 27], none⟩,
       ⟨some 29, .not, [.t 28], none⟩])
      (.cond (.t 29)
       (.seq
        (.region false [
         ⟨some 30, (.build [(.f .f32 0), (.f .f32 0), (.sl .nil 0 (.f .f32 [])), (.i .i64 0)] []), [], none⟩,
         ⟨none, (.storeN 4), [.t 6, .t 30], none⟩,
         ⟨some 7, .mv, [.k (.f .f32 0)], none⟩,
         ⟨some 8, .mv, [.k (.b false)], none⟩])
        .ret)
       .skip))
     (.seq
      (.region false [
       ⟨some 32, (.loadN 4), [.t 3], none⟩,
       ⟨some 33, (.loadN 4), [.t 4], none⟩,
       ⟨some 34, .mv, [.t 2], none⟩,
       ⟨some 35, (.call g_impl_State__step), [.t 32, .t 33, .t 34], none⟩,
       ⟨some 31, .mv, [.t 35], none⟩,
       ⟨some 36, (.extract 0), [.t 31], none⟩,
       ⟨some 37, (.extract 1), [.t 31], none⟩,
       ⟨some 9, (.alloc [(.f .f32 0), (.f .f32 0), (.sl .imm 0 (.f .f32 [])), (.i .i64 0)]), [], none⟩,
       ⟨none, (.storeN 4), [.t 9, .t 36], none⟩,
       ⟨some 10, .mv, [.t 37], none⟩])
      (.seq
       (.seq
        (.region false [
         ⟨some 38, (.loadN 4), [.t 9], none⟩,
         ⟨some 39, (.call g_impl_ValidState), [.t 38], none⟩,
         ⟨some 40, .not, [.t 39], none⟩,
         ⟨some 41, .mv, [.t 40], none⟩,
         ⟨some 42, .mv, [.t 10], some (41, false)⟩,
         ⟨some 43, (.call g_impl_IsFinite), [.t 42], some (41, false)⟩,
         ⟨some 44, .not, [.t 43], some (41, false)⟩,
         ⟨some 45, .pick, [.t 41, .k (.b true), .t 44], none⟩])
        (.cond (.t 45)
         (.seq
          (.region false [
           ⟨some 46, (.build [(.f .f32 0), (.f .f32 0), (.sl .nil 0 (.f .f32 [])), (.i .i64 0)] []), [], none⟩,
           ⟨none, (.storeN 4), [.t 6, .t 46], none⟩,
           ⟨some 7, .mv, [.k (.f .f32 0)], none⟩,
           ⟨some 8, .mv, [.k (.b false)], none⟩])
          .ret)
         .skip))
       (.seq
        (.region false [
         ⟨some 47, (.loadN 4), [.t 9], none⟩,
         ⟨some 48, .mv, [.t 10], none⟩,
         ⟨none, (.storeN 4), [.t 6, .t 47], none⟩,
         ⟨some 7, .mv, [.t 48], none⟩,
         ⟨some 8, .mv, [.k (.b true)], none⟩])
        .ret))))))

abbrev Is_impl_StepState (P : Program) (g_f : FuncId) (g_impl_ValidState g_impl_ValidShares g_impl_IsFinite g_impl_State__guess g_impl_State__step : FuncId) : Prop := FnIs P g_f 49 [.row 6 4, .t 7, .t 8] (b_impl_StepState g_impl_ValidState g_impl_ValidShares g_impl_IsFinite g_impl_State__guess g_impl_State__step)

abbrev C_impl_StepState (P : Program) (g_f : FuncId) : Prop := ∀ (l : Nat) (s : Nat) (xs : List Nat) (t : Int) (a : Nat) (b : Nat) (c : Nat) (d : Nat) (x : Nat) (hx : xs.length ≤ maxLen), VCall P g_f [.agg (ST (.par [0, 2]) l s xs t), .agg (F4 a b c d), .f .f32 x] (.tup [.agg (ST (.own 0) (iv (ssOk l s xs t a b c d x) (ssL l s xs t a b c d x)) (iv (ssOk l s xs t a b c d x) (ssS l s xs t a b c d x)) (ivl (ssOk l s xs t a b c d x) (ssX l s xs t a b c d x)) (ivi (ssOk l s xs t a b c d x) (ssT xs t))), .f .f32 (iv (ssOk l s xs t a b c d x) (ssE l s xs t d x)), .b (ssOk l s xs t a b c d x)])
def oc1_impl_StepState (as : List AV) : T AV := match as with | [.agg [.f _ l, .f _ s, .sl _ _ (.f _ xs), .i _ t], .agg [.f _ a, .f _ b, .f _ c, .f _ d], .f .f32 x] => .leaf (.tup [.agg (ST (.own 0) (iv (ssOk l s xs t a b c d x) (ssL l s xs t a b c d x)) (iv (ssOk l s xs t a b c d x) (ssS l s xs t a b c d x)) (ivl (ssOk l s xs t a b c d x) (ssX l s xs t a b c d x)) (ivi (ssOk l s xs t a b c d x) (ssT xs t))), .f .f32 (iv (ssOk l s xs t a b c d x) (ssE l s xs t d x)), .b (ssOk l s xs t a b c d x)]) | _ => .fail
def oc_impl_StepState (l : Nat) (s : Nat) (xs : List Nat) (t : Int) (a : Nat) (b : Nat) (c : Nat) (d : Nat) (x : Nat) (d : Nat) (as : List AV) : T AV := match d with | 12 => oc1_impl_ValidState as | 16 => oc1_impl_ValidShares as | 21 => oc1_impl_IsFinite as | 27 => oc1_impl_State__guess as | 28 => oc1_impl_IsFinite as | 35 => oc1_impl_State__step as | 39 => oc1_impl_ValidState as | 43 => oc1_impl_IsFinite as | _ => .fail



theorem q_impl_StepState {P : Program} {g_f : FuncId} {g_impl_ValidState g_impl_ValidShares g_impl_IsFinite g_impl_State__guess g_impl_State__step : FuncId} (h_ : Is_impl_StepState P g_f g_impl_ValidState g_impl_ValidShares g_impl_IsFinite g_impl_State__guess g_impl_State__step) (l : Nat) (s : Nat) (xs : List Nat) (t : Int) (a : Nat) (b : Nat) (c : Nat) (d : Nat) (x : Nat) (ht : T.ok (fun x_ => x_ = .tup [.agg (ST (.own 0) (iv (ssOk l s xs t a b c d x) (ssL l s xs t a b c d x)) (iv (ssOk l s xs t a b c d x) (ssS l s xs t a b c d x)) (ivl (ssOk l s xs t a b c d x) (ssX l s xs t a b c d x)) (ivi (ssOk l s xs t a b c d x) (ssT xs t))), .f .f32 (iv (ssOk l s xs t a b c d x) (ssE l s xs t d x)), .b (ssOk l s xs t a b c d x)]) (
      T.ob (false = false)
        (T.ob (false = false)
          (T.ob ((VCall P) g_impl_ValidState [AV.agg [AV.f FloatKind.f32 l, AV.f FloatKind.f32 s, AV.sl (Tag.par [0, 2]) 0 (Cont.f FloatKind.f32 xs), AV.i IntKind.i64 t]] (AV.b (validStateM l s xs t)))
            (T.ite (!validStateM l s xs t)
              (T.ob (false = false) (T.leaf (AV.tup [AV.agg [AV.f FloatKind.f32 0, AV.f FloatKind.f32 0, AV.sl (Tag.own 0) 0 (Cont.f FloatKind.f32 []), AV.i IntKind.i64 0], AV.f FloatKind.f32 0, AV.b false])))
              (T.ob ((VCall P) g_impl_ValidShares [AV.agg [AV.f FloatKind.f32 a, AV.f FloatKind.f32 b, AV.f FloatKind.f32 c, AV.f FloatKind.f32 d]] (AV.b (sharesM a b c d)))
                (T.ite (!sharesM a b c d)
                  (T.ob (false = false) (T.leaf (AV.tup [AV.agg [AV.f FloatKind.f32 0, AV.f FloatKind.f32 0, AV.sl (Tag.own 0) 0 (Cont.f FloatKind.f32 []), AV.i IntKind.i64 0], AV.f FloatKind.f32 0, AV.b false])))
                  (T.ob ((VCall P) g_impl_IsFinite [AV.f FloatKind.f32 x] (AV.b (finM x)))
                    (T.ite (!finM x)
                      (T.ob (false = false) (T.leaf (AV.tup [AV.agg [AV.f FloatKind.f32 0, AV.f FloatKind.f32 0, AV.sl (Tag.own 0) 0 (Cont.f FloatKind.f32 []), AV.i IntKind.i64 0], AV.f FloatKind.f32 0, AV.b false])))
                      (T.ob
                        ((VCall P) g_impl_State__guess
                          [AV.agg [AV.f FloatKind.f32 l, AV.f FloatKind.f32 s, AV.sl (Tag.par [0, 2]) 0 (Cont.f FloatKind.f32 xs), AV.i IntKind.i64 t],
                            AV.agg [AV.f FloatKind.f32 a, AV.f FloatKind.f32 b, AV.f FloatKind.f32 c, AV.f FloatKind.f32 d]]
                          (AV.f FloatKind.f32 (guessM l s xs t d)))
                        (T.ob ((VCall P) g_impl_IsFinite [AV.f FloatKind.f32 (guessM l s xs t d)] (AV.b (finM (guessM l s xs t d))))
                          (T.ite (!finM (guessM l s xs t d))
                            (T.ob (false = false) (T.leaf (AV.tup [AV.agg [AV.f FloatKind.f32 0, AV.f FloatKind.f32 0, AV.sl (Tag.own 0) 0 (Cont.f FloatKind.f32 []), AV.i IntKind.i64 0], AV.f FloatKind.f32 0, AV.b false])))
                            (T.ob
                              ((VCall P) g_impl_State__step
                                [AV.agg [AV.f FloatKind.f32 l, AV.f FloatKind.f32 s, AV.sl (Tag.par [0, 2]) 0 (Cont.f FloatKind.f32 xs), AV.i IntKind.i64 t],
                                  AV.agg [AV.f FloatKind.f32 a, AV.f FloatKind.f32 b, AV.f FloatKind.f32 c, AV.f FloatKind.f32 d], AV.f FloatKind.f32 x]
                                (AV.tup
                                  [AV.agg
                                      [AV.f FloatKind.f32 (ssL l s xs t a b c d x), AV.f FloatKind.f32 (ssS l s xs t a b c d x), AV.sl (Tag.own 0) 0 (Cont.f FloatKind.f32 (ssX l s xs t a b c d x)),
                                        AV.i IntKind.i64 (ssT xs t)],
                                    AV.f FloatKind.f32 (ssE l s xs t d x)]))
                              (T.ob (false = false)
                                (T.ob
                                  ((VCall P) g_impl_ValidState
                                    [AV.agg
                                        [AV.f FloatKind.f32 (ssL l s xs t a b c d x), AV.f FloatKind.f32 (ssS l s xs t a b c d x), AV.sl (Tag.par [0, 2]) 0 (Cont.f FloatKind.f32 (ssX l s xs t a b c d x)),
                                          AV.i IntKind.i64 (ssT xs t)]]
                                    (AV.b (validStateM (ssL l s xs t a b c d x) (ssS l s xs t a b c d x) (ssX l s xs t a b c d x) (ssT xs t))))
                                  (T.ite (!validStateM (ssL l s xs t a b c d x) (ssS l s xs t a b c d x) (ssX l s xs t a b c d x) (ssT xs t))
                                    (T.ob (false = false)
                                      (T.leaf (AV.tup [AV.agg [AV.f FloatKind.f32 0, AV.f FloatKind.f32 0, AV.sl (Tag.own 0) 0 (Cont.f FloatKind.f32 []), AV.i IntKind.i64 0], AV.f FloatKind.f32 0, AV.b false])))
                                    (T.ob ((VCall P) g_impl_IsFinite [AV.f FloatKind.f32 (ssE l s xs t d x)] (AV.b (finM (ssE l s xs t d x))))
                                      (T.ite (!finM (ssE l s xs t d x))
                                        (T.ob (false = false)
                                          (T.leaf (AV.tup [AV.agg [AV.f FloatKind.f32 0, AV.f FloatKind.f32 0, AV.sl (Tag.own 0) 0 (Cont.f FloatKind.f32 []), AV.i IntKind.i64 0], AV.f FloatKind.f32 0, AV.b false])))
                                        (T.ob (false = false)
                                          (T.leaf
                                            (AV.tup
                                              [AV.agg
                                                  [AV.f FloatKind.f32 (ssL l s xs t a b c d x), AV.f FloatKind.f32 (ssS l s xs t a b c d x), AV.sl (Tag.own 0) 0 (Cont.f FloatKind.f32 (ssX l s xs t a b c d x)),
                                                    AV.i IntKind.i64 (ssT xs t)],
                                                AV.f FloatKind.f32 (ssE l s xs t d x), AV.b true]))))))))))))))))))))) :
    VCall P g_f [.agg (ST (.par [0, 2]) l s xs t), .agg (F4 a b c d), .f .f32 x] (.tup [.agg (ST (.own 0) (iv (ssOk l s xs t a b c d x) (ssL l s xs t a b c d x)) (iv (ssOk l s xs t a b c d x) (ssS l s xs t a b c d x)) (ivl (ssOk l s xs t a b c d x) (ssX l s xs t a b c d x)) (ivi (ssOk l s xs t a b c d x) (ssT xs t))), .f .f32 (iv (ssOk l s xs t a b c d x) (ssE l s xs t d x)), .b (ssOk l s xs t a b c d x)]) := h_.call_of ps_impl_StepState ⟨oc_impl_StepState l s xs t a b c d x, fun _ _ => none⟩ (by kernel_rfl) ht

-- END impl_StepState
-- FN spec_StepState
/-- spec.StepState: slots 34, results [.row 6 4, .t 7, .t 8]; calls [11:g_spec_l04Can, 15:g_spec_l01Finite, 21:g_spec_l04Step, 24:g_spec_l04Is, 28:g_spec_l01Finite]; names [(s, 0), (h, 1), (x, 2), (s, 3), (h, 4), (x, 5), (out, 9), (e, 10)] -/
def ps_spec_StepState : List Nat := [0, 1, 2, 3, 4, 6, 7, 8, 9, 10, 17, 30]
def b_spec_StepState (g_spec_l04Can g_spec_l01Finite g_spec_l04Step g_spec_l04Is : FuncId) : VCode :=
  (.seq
   (.region false [
    ⟨some 3, .boxN, [.t 0], none⟩,
    ⟨some 4, .boxN, [.t 1], none⟩,
    ⟨some 6, (.alloc [(.f .f32 0), (.f .f32 0), (.sl .imm 0 (.f .f32 [])), (.i .i64 0)]), [], none⟩,
    ⟨some 7, .mv, [.k (.f .f32 0)], none⟩,
    ⟨some 8, .mv, [.k (.b false)], none⟩])
   (.seq
    (.seq
     (.region false [
      ⟨some 11, (.call g_spec_l04Can), [.t 3, .t 4], none⟩,
      ⟨some 12, .not, [.t 11], none⟩,
      ⟨some 13, .mv, [.t 12], none⟩,
      ⟨some 14, .mv, [.t 2], some (13, false)⟩,
      ⟨some 15, (.call g_spec_l01Finite), [.t 14], some (13, false)⟩,
      ⟨some 16, .not, [.t 15], some (13, false)⟩,
      ⟨some 17, .pick, [.t 13, .k (.b true), .t 16], none⟩])
     (.cond (.t 17)
      (.seq
       (.region false [
        ⟨some 18, (.build [(.f .f32 0), (.f .f32 0), (.sl .nil 0 (.f .f32 [])), (.i .i64 0)] []), [], none⟩,
        ⟨none, (.storeN 4), [.t 6, .t 18], none⟩,
        ⟨some 7, .mv, [.k (.f .f32 0)], none⟩,
        ⟨some 8, .mv, [.k (.b false)], none⟩])
       .ret)
      .skip))
    (.seq
     (.region false [
      ⟨some 20, .mv, [.t 2], none⟩,
      ⟨some 21, (.call g_spec_l04Step), [.t 3, .t 4, .t 20], none⟩,
      ⟨some 19, .mv, [.t 21], none⟩,
      ⟨some 22, (.extract 0), [.t 19], none⟩,
      ⟨some 23, (.extract 1), [.t 19], none⟩,
      ⟨some 9, (.alloc [(.f .f32 0), (.f .f32 0), (.sl .imm 0 (.f .f32 [])), (.i .i64 0)]), [], none⟩,
      ⟨none, (.storeN 4), [.t 9, .t 22], none⟩,
      ⟨some 10, .mv, [.t 23], none⟩])
     (.seq
      (.seq
       (.region false [
        ⟨some 24, (.call g_spec_l04Is), [.t 9], none⟩,
        ⟨some 25, .not, [.t 24], none⟩,
        ⟨some 26, .mv, [.t 25], none⟩,
        ⟨some 27, .mv, [.t 10], some (26, false)⟩,
        ⟨some 28, (.call g_spec_l01Finite), [.t 27], some (26, false)⟩,
        ⟨some 29, .not, [.t 28], some (26, false)⟩,
        ⟨some 30, .pick, [.t 26, .k (.b true), .t 29], none⟩])
       (.cond (.t 30)
        (.seq
         (.region false [
          ⟨some 31, (.build [(.f .f32 0), (.f .f32 0), (.sl .nil 0 (.f .f32 [])), (.i .i64 0)] []), [], none⟩,
          ⟨none, (.storeN 4), [.t 6, .t 31], none⟩,
          ⟨some 7, .mv, [.k (.f .f32 0)], none⟩,
          ⟨some 8, .mv, [.k (.b false)], none⟩])
         .ret)
        .skip))
      (.seq
       (.region false [
        ⟨some 32, (.loadN 4), [.t 9], none⟩,
        ⟨some 33, .mv, [.t 10], none⟩,
        ⟨none, (.storeN 4), [.t 6, .t 32], none⟩,
        ⟨some 7, .mv, [.t 33], none⟩,
        ⟨some 8, .mv, [.k (.b true)], none⟩])
       .ret)))))

abbrev Is_spec_StepState (P : Program) (g_f : FuncId) (g_spec_l04Can g_spec_l01Finite g_spec_l04Step g_spec_l04Is : FuncId) : Prop := FnIs P g_f 34 [.row 6 4, .t 7, .t 8] (b_spec_StepState g_spec_l04Can g_spec_l01Finite g_spec_l04Step g_spec_l04Is)

abbrev C_spec_StepState (P : Program) (g_f : FuncId) : Prop := ∀ (l : Nat) (s : Nat) (xs : List Nat) (t : Int) (a : Nat) (b : Nat) (c : Nat) (d : Nat) (x : Nat) (hx : xs.length ≤ maxLen), VCall P g_f [.agg (ST (.par [0, 2]) l s xs t), .agg (F4 a b c d), .f .f32 x] (.tup [.agg (ST (.own 0) (iv (ssOk l s xs t a b c d x) (ssL l s xs t a b c d x)) (iv (ssOk l s xs t a b c d x) (ssS l s xs t a b c d x)) (ivl (ssOk l s xs t a b c d x) (ssX l s xs t a b c d x)) (ivi (ssOk l s xs t a b c d x) (ssT xs t))), .f .f32 (iv (ssOk l s xs t a b c d x) (ssE l s xs t d x)), .b (ssOk l s xs t a b c d x)])
def oc1_spec_StepState (as : List AV) : T AV := match as with | [.agg [.f _ l, .f _ s, .sl _ _ (.f _ xs), .i _ t], .agg [.f _ a, .f _ b, .f _ c, .f _ d], .f .f32 x] => .leaf (.tup [.agg (ST (.own 0) (iv (ssOk l s xs t a b c d x) (ssL l s xs t a b c d x)) (iv (ssOk l s xs t a b c d x) (ssS l s xs t a b c d x)) (ivl (ssOk l s xs t a b c d x) (ssX l s xs t a b c d x)) (ivi (ssOk l s xs t a b c d x) (ssT xs t))), .f .f32 (iv (ssOk l s xs t a b c d x) (ssE l s xs t d x)), .b (ssOk l s xs t a b c d x)]) | _ => .fail
def oc_spec_StepState (l : Nat) (s : Nat) (xs : List Nat) (t : Int) (a : Nat) (b : Nat) (c : Nat) (d : Nat) (x : Nat) (d : Nat) (as : List AV) : T AV := match d with | 11 => oc1_spec_l04Can as | 15 => oc1_spec_l01Finite as | 21 => oc1_spec_l04Step as | 24 => oc1_spec_l04Is as | 28 => oc1_spec_l01Finite as | _ => .fail



theorem q_spec_StepState {P : Program} {g_f : FuncId} {g_spec_l04Can g_spec_l01Finite g_spec_l04Step g_spec_l04Is : FuncId} (h_ : Is_spec_StepState P g_f g_spec_l04Can g_spec_l01Finite g_spec_l04Step g_spec_l04Is) (l : Nat) (s : Nat) (xs : List Nat) (t : Int) (a : Nat) (b : Nat) (c : Nat) (d : Nat) (x : Nat) (ht : T.ok (fun x_ => x_ = .tup [.agg (ST (.own 0) (iv (ssOk l s xs t a b c d x) (ssL l s xs t a b c d x)) (iv (ssOk l s xs t a b c d x) (ssS l s xs t a b c d x)) (ivl (ssOk l s xs t a b c d x) (ssX l s xs t a b c d x)) (ivi (ssOk l s xs t a b c d x) (ssT xs t))), .f .f32 (iv (ssOk l s xs t a b c d x) (ssE l s xs t d x)), .b (ssOk l s xs t a b c d x)]) (
      T.ob (false = false)
        (T.ob (false = false)
          (T.ob
            ((VCall P) g_spec_l04Can
              [AV.bx (Tag.par [0]) [AV.f FloatKind.f32 l, AV.f FloatKind.f32 s, AV.sl (Tag.par [0, 2]) 0 (Cont.f FloatKind.f32 xs), AV.i IntKind.i64 t],
                AV.bx (Tag.par [1]) [AV.f FloatKind.f32 a, AV.f FloatKind.f32 b, AV.f FloatKind.f32 c, AV.f FloatKind.f32 d]]
              (AV.b (validStateM l s xs t && sharesM a b c d)))
            (T.ite (!(validStateM l s xs t && sharesM a b c d))
              (T.ob (false = false) (T.leaf (AV.tup [AV.agg [AV.f FloatKind.f32 0, AV.f FloatKind.f32 0, AV.sl (Tag.own 0) 0 (Cont.f FloatKind.f32 []), AV.i IntKind.i64 0], AV.f FloatKind.f32 0, AV.b false])))
              (T.ob ((VCall P) g_spec_l01Finite [AV.f FloatKind.f32 x] (AV.b (finM x)))
                (T.ite (!finM x)
                  (T.ob (false = false) (T.leaf (AV.tup [AV.agg [AV.f FloatKind.f32 0, AV.f FloatKind.f32 0, AV.sl (Tag.own 0) 0 (Cont.f FloatKind.f32 []), AV.i IntKind.i64 0], AV.f FloatKind.f32 0, AV.b false])))
                  (T.ob
                    ((VCall P) g_spec_l04Step
                      [AV.bx (Tag.par [0]) [AV.f FloatKind.f32 l, AV.f FloatKind.f32 s, AV.sl (Tag.par [0, 2]) 0 (Cont.f FloatKind.f32 xs), AV.i IntKind.i64 t],
                        AV.bx (Tag.par [1]) [AV.f FloatKind.f32 a, AV.f FloatKind.f32 b, AV.f FloatKind.f32 c, AV.f FloatKind.f32 d], AV.f FloatKind.f32 x]
                      (AV.tup
                        [AV.agg [AV.f FloatKind.f32 (ssL l s xs t a b c d x), AV.f FloatKind.f32 (ssS l s xs t a b c d x), AV.sl (Tag.own 0) 0 (Cont.f FloatKind.f32 (ssX l s xs t a b c d x)), AV.i IntKind.i64 (ssT xs t)],
                          AV.f FloatKind.f32 (ssE l s xs t d x)]))
                    (T.ob (false = false)
                      (T.ob
                        ((VCall P) g_spec_l04Is
                          [AV.bx (Tag.par [0])
                              [AV.f FloatKind.f32 (ssL l s xs t a b c d x), AV.f FloatKind.f32 (ssS l s xs t a b c d x), AV.sl (Tag.par [0, 2]) 0 (Cont.f FloatKind.f32 (ssX l s xs t a b c d x)), AV.i IntKind.i64 (ssT xs t)]]
                          (AV.b (validStateM (ssL l s xs t a b c d x) (ssS l s xs t a b c d x) (ssX l s xs t a b c d x) (ssT xs t))))
                        (T.ite (!validStateM (ssL l s xs t a b c d x) (ssS l s xs t a b c d x) (ssX l s xs t a b c d x) (ssT xs t))
                          (T.ob (false = false) (T.leaf (AV.tup [AV.agg [AV.f FloatKind.f32 0, AV.f FloatKind.f32 0, AV.sl (Tag.own 0) 0 (Cont.f FloatKind.f32 []), AV.i IntKind.i64 0], AV.f FloatKind.f32 0, AV.b false])))
                          (T.ob ((VCall P) g_spec_l01Finite [AV.f FloatKind.f32 (ssE l s xs t d x)] (AV.b (finM (ssE l s xs t d x))))
                            (T.ite (!finM (ssE l s xs t d x))
                              (T.ob (false = false) (T.leaf (AV.tup [AV.agg [AV.f FloatKind.f32 0, AV.f FloatKind.f32 0, AV.sl (Tag.own 0) 0 (Cont.f FloatKind.f32 []), AV.i IntKind.i64 0], AV.f FloatKind.f32 0, AV.b false])))
                              (T.ob (false = false)
                                (T.leaf
                                  (AV.tup
                                    [AV.agg
                                        [AV.f FloatKind.f32 (ssL l s xs t a b c d x), AV.f FloatKind.f32 (ssS l s xs t a b c d x), AV.sl (Tag.own 0) 0 (Cont.f FloatKind.f32 (ssX l s xs t a b c d x)),
                                          AV.i IntKind.i64 (ssT xs t)],
                                      AV.f FloatKind.f32 (ssE l s xs t d x), AV.b true])))))))))))))))) :
    VCall P g_f [.agg (ST (.par [0, 2]) l s xs t), .agg (F4 a b c d), .f .f32 x] (.tup [.agg (ST (.own 0) (iv (ssOk l s xs t a b c d x) (ssL l s xs t a b c d x)) (iv (ssOk l s xs t a b c d x) (ssS l s xs t a b c d x)) (ivl (ssOk l s xs t a b c d x) (ssX l s xs t a b c d x)) (ivi (ssOk l s xs t a b c d x) (ssT xs t))), .f .f32 (iv (ssOk l s xs t a b c d x) (ssE l s xs t d x)), .b (ssOk l s xs t a b c d x)]) := h_.call_of ps_spec_StepState ⟨oc_spec_StepState l s xs t a b c d x, fun _ _ => none⟩ (by kernel_rfl) ht

-- END spec_StepState

theorem k_spec_l04Own {P : Program} {f : FuncId} (h : Is_spec_l04Own P f) : C_spec_l04Own P f := by
  intro l s xs t hx
  refine q_spec_l04Own h l s xs t ?_
  repeat' (first | with_reducible refine T.ok_ob ?_ (fun _ => ?_) | with_reducible refine T.ok_ite (fun _ => ?_) (fun _ => ?_) | with_reducible refine T.ok_leaf ?_)
  all_goals first | omega | trivial | rfl
theorem k_spec_l04Step {P : Program} {f g1 g2 : FuncId} (h : Is_spec_l04Step P f g1 g2) (c1 : C_spec_l04Guess P g1) (c2 : C_spec_l04Own P g2) : C_spec_l04Step P f := by
  intro l s xs t a b c d x ht hx
  refine q_spec_l04Step h l s xs t a b c d x ?_
  simp only [Nat.zero_add, Nat.sub_zero]
  repeat' (first | with_reducible refine T.ok_ob ?_ (fun _ => ?_) | with_reducible refine T.ok_ite (fun _ => ?_) (fun _ => ?_) | with_reducible refine T.ok_leaf ?_)
  all_goals first | trivial | with_reducible rfl | exact c1 _ _ _ _ _ _ _ _ ht | exact c2 _ _ _ _ hx | omega | rfl
theorem k_impl_State__step {P : Program} {f g1 g2 : FuncId} (h : Is_impl_State__step P f g1 g2) (c1 : C_impl_State__guess P g1) (c2 : C_slices_Clone___float32_float32_ P g2) : C_impl_State__step P f := by
  intro l s xs t a b c d x ht hx
  refine q_impl_State__step h l s xs t a b c d x ?_
  simp only [Nat.zero_add, Nat.sub_zero]
  repeat' (first | with_reducible refine T.ok_ob ?_ (fun _ => ?_) | with_reducible refine T.ok_ite (fun _ => ?_) (fun _ => ?_) | with_reducible refine T.ok_leaf ?_)
  all_goals first | trivial | with_reducible rfl | exact c1 _ _ _ _ _ _ _ _ ht | exact c2 _ (by omega) (by omega) | omega | rfl

theorem valid_t {l s : Nat} {xs : List Nat} {t : Int} (h : validStateM l s xs t = true) : (0 ≤ t ∧ t < xs.length) ∧ xs.length ≤ 24 := by
  simp [validStateM, inM] at h
  omega
theorem ss_len (l s : Nat) (xs : List Nat) (t : Int) (a b c d x : Nat) : (ssX l s xs t a b c d x).length = xs.length := by simp [ssX]
theorem ss_bad {l s : Nat} {xs : List Nat} {t : Int} {d x : Nat} (hx : finM x = true) (h : finM (guessM l s xs t d) = false) : finM (ssE l s xs t d x) = false := bad_sub hx h
theorem k_impl_StepState {P : Program} {f g1 g2 g3 g4 g5 : FuncId} (h : Is_impl_StepState P f g1 g2 g3 g4 g5) (c1 : C_impl_ValidState P g1) (c2 : C_impl_ValidShares P g2) (c3 : C_impl_IsFinite P g3) (c4 : C_impl_State__guess P g4) (c5 : C_impl_State__step P g5) : C_impl_StepState P f := by
  intro l s xs t a b c d x hx
  refine q_impl_StepState h l s xs t a b c d x ?_
  have sl := ss_len l s xs t a b c d x
  repeat' (first | with_reducible refine T.ok_ob ?_ (fun _ => ?_) | with_reducible refine T.ok_ite (fun _ => ?_) (fun _ => ?_) | with_reducible refine T.ok_leaf ?_)
  all_goals first | with_reducible rfl | with_reducible exact c1 _ _ _ _ hx | with_reducible exact c2 _ _ _ _ | with_reducible exact c3 _ | skip
  all_goals (have hv : validStateM l s xs t = true → (0 ≤ t ∧ t < xs.length) ∧ xs.length ≤ 24 := valid_t)
  all_goals (have hb : finM x = true → finM (guessM l s xs t d) = false → finM (ssE l s xs t d x) = false := ss_bad)
  all_goals first | exact c4 _ _ _ _ _ _ _ _ (by simp_all) | exact c5 _ _ _ _ _ _ _ _ _ (by simp_all) (by simp_all; omega) | exact c1 _ _ _ _ (by rw [sl]; exact hx) | (simp_all [ssOk, iv, ivl, ivi]; done)
theorem k_spec_StepState {P : Program} {f g1 g2 g3 g4 : FuncId} (h : Is_spec_StepState P f g1 g2 g3 g4) (c1 : C_spec_l04Can P g1) (c2 : C_spec_l01Finite P g2) (c3 : C_spec_l04Step P g3) (c4 : C_spec_l04Is P g4) : C_spec_StepState P f := by
  intro l s xs t a b c d x hx
  refine q_spec_StepState h l s xs t a b c d x ?_
  have sl := ss_len l s xs t a b c d x
  repeat' (first | with_reducible refine T.ok_ob ?_ (fun _ => ?_) | with_reducible refine T.ok_ite (fun _ => ?_) (fun _ => ?_) | with_reducible refine T.ok_leaf ?_)
  all_goals first | with_reducible rfl | with_reducible exact c1 _ _ _ _ _ _ _ _ hx | with_reducible exact c2 _ | skip
  all_goals (have hv : validStateM l s xs t = true → (0 ≤ t ∧ t < xs.length) ∧ xs.length ≤ 24 := valid_t)
  all_goals first | exact c3 _ _ _ _ _ _ _ _ _ (by simp_all) (by simp_all; omega) | exact c4 _ _ _ _ (by rw [sl]; exact hx) | (simp_all [ssOk, iv, ivl, ivi]; done) | (have hz : ssOk l s xs t a b c d x = false := (by (cases hA : validStateM l s xs t <;> cases hB : sharesM a b c d <;> simp_all [ssOk])); simp only [hz]; rfl)
end Go.Proofs.LV
