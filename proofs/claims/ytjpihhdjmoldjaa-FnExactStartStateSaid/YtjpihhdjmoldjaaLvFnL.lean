/- The state at the beginning of a series. -/
import Derived.Test.YtjpihhdjmoldjaaLvFnJ
namespace Go.Proofs.LV
open Go
set_option linter.unusedVariables false
set_option linter.unusedSimpArgs false

def stL (xs : List Nat) (k : Nat) : Nat := meanM (xs.take k)
def stS (xs : List Nat) (k : Nat) : Nat := if 2 * k ≤ xs.length then fdiv .f32 (fsub .f32 (meanM ((xs.drop k).take k)) (stL xs k)) (fofi .f32 k) else 0
def stX (xs : List Nat) (k : Nat) : List Nat := if k = 1 then [0] else lessOneM (xs.take k) (stL xs k)
def stOk (xs : List Nat) (per : Int) : Bool := seriesM xs && (inM per 1 24 && (decide (per ≤ xs.length) && validStateM (stL xs per.toNat) (stS xs per.toNat) (stX xs per.toNat) 0))
def iv (b : Bool) (x : Nat) : Nat := if b = true then x else 0
def ivi (b : Bool) (x : Int) : Int := if b = true then x else 0
def ivl (b : Bool) (x : List Nat) : List Nat := if b = true then x else []

-- FN impl_startState
/-- impl.startState: slots 41, results [.row 4 4]; calls [9:g_impl_mean, 21:g_impl_mean, 34:g_impl_lessOne]; names [(list, 0), (period, 1), (list, 2), (period, 3), (s, 5)] -/
def ps_impl_startState : List Nat := [0, 1, 4, 5, 15, 37]
def b_impl_startState (g_impl_mean g_impl_lessOne : FuncId) : VCode :=
  (.seq
   (.region false [
    ⟨some 4, (.alloc [(.f .f32 0), (.f .f32 0), (.sl .imm 0 (.f .f32 [])), (.i .i64 0)]), [], none⟩])
   (.seq
    (.region false [
     ⟨some 6, .mv, [.t 0], none⟩,
     ⟨some 7, .mv, [.t 1], none⟩,
     ⟨some 8, (.slice false true false), [.t 6, .t 7], none⟩,
     ⟨some 9, (.call g_impl_mean), [.t 8], none⟩,
     ⟨some 10, (.build [(.f .f32 0), (.f .f32 0), (.sl .nil 0 (.f .f32 [])), (.i .i64 0)] [0]), [.t 9], none⟩,
     ⟨some 5, (.alloc [(.f .f32 0), (.f .f32 0), (.sl .imm 0 (.f .f32 [])), (.i .i64 0)]), [], none⟩,
     ⟨none, (.storeN 4), [.t 5, .t 10], none⟩])
    (.seq
     (.seq
      (.region false [
       ⟨some 11, .mv, [.t 0], none⟩,
       ⟨some 12, .len, [.t 11], none⟩,
       ⟨some 13, .mv, [.t 1], none⟩,
       ⟨some 14, (.bin .mul), [.k (.i .i64 2), .t 13], none⟩,
       ⟨some 15, (.bin .geq), [.t 12, .t 14], none⟩])
      (.cond (.t 15)
       (.region true [
        ⟨some 16, .mv, [.t 0], none⟩,
        ⟨some 17, .mv, [.t 1], none⟩,
        ⟨some 18, .mv, [.t 1], none⟩,
        ⟨some 19, (.bin .mul), [.k (.i .i64 2), .t 18], none⟩,
        ⟨some 20, (.slice true true false), [.t 16, .t 17, .t 19], none⟩,
        ⟨some 21, (.call g_impl_mean), [.t 20], none⟩,
        ⟨some 22, (.faddr 0), [.t 5], none⟩,
        ⟨some 23, .load, [.t 22], none⟩,
        ⟨some 24, (.bin .sub), [.t 21, .t 23], none⟩,
        ⟨some 25, .mv, [.t 1], none⟩,
        ⟨some 26, (.convF .f32), [.t 25], none⟩,
        ⟨some 27, (.bin .quo), [.t 24, .t 26], none⟩,
        ⟨some 28, (.faddr 1), [.t 5], none⟩,
        ⟨none, .store, [.t 28, .t 27], none⟩])
       .skip))
     (.seq
      (.region true [
       ⟨some 29, .mv, [.t 0], none⟩,
       ⟨some 30, .mv, [.t 1], none⟩,
       ⟨some 31, (.slice false true false), [.t 29, .t 30], none⟩,
       ⟨some 32, (.faddr 0), [.t 5], none⟩,
       ⟨some 33, .load, [.t 32], none⟩,
       ⟨some 34, (.call g_impl_lessOne), [.t 31, .t 33], none⟩,
       ⟨some 35, (.faddr 2), [.t 5], none⟩,
       ⟨none, .store, [.t 35, .t 34], none⟩])
      (.seq
       (.seq
        (.region false [
         ⟨some 36, .mv, [.t 1], none⟩,
         ⟨some 37, (.bin .eql), [.t 36, .k (.i .i64 1)], none⟩])
        (.cond (.t 37)
         (.region false [
          ⟨some 38, (.lit true (.f .f32 [])), [.k (.f .f32 0)], none⟩,
          ⟨some 39, (.faddr 2), [.t 5], none⟩,
          ⟨none, .store, [.t 39, .t 38], none⟩])
         .skip))
       (.seq
        (.region false [
         ⟨some 40, (.loadN 4), [.t 5], none⟩,
         ⟨none, (.storeN 4), [.t 4, .t 40], none⟩])
        .ret))))))

abbrev Is_impl_startState (P : Program) (g_f : FuncId) (g_impl_mean g_impl_lessOne : FuncId) : Prop := FnIs P g_f 41 [.row 4 4] (b_impl_startState g_impl_mean g_impl_lessOne)

abbrev C_impl_startState (P : Program) (g_f : FuncId) : Prop := ∀ (xs : List Nat) (per : Int) (hp : 1 ≤ per ∧ per ≤ xs.length) (hx : xs.length ≤ 96), VCall P g_f [PS [0] .f32 xs, .i .i64 per] (.agg (ST (.own 0) (stL xs per.toNat) (stS xs per.toNat) (stX xs per.toNat) 0))
def oc1_impl_startState (as : List AV) : T AV := match as with | [.sl _ _ (.f .f32 xs), .i .i64 per] => .leaf (.agg (ST (.own 0) (stL xs per.toNat) (stS xs per.toNat) (stX xs per.toNat) 0)) | _ => .fail
def oc_impl_startState (xs : List Nat) (per : Int) (d : Nat) (as : List AV) : T AV := match d with | 9 => oc1_impl_mean as | 21 => oc1_impl_mean as | 34 => oc1_impl_lessOne as | _ => .fail



theorem q_impl_startState {P : Program} {g_f : FuncId} {g_impl_mean g_impl_lessOne : FuncId} (h_ : Is_impl_startState P g_f g_impl_mean g_impl_lessOne) (xs : List Nat) (per : Int) (ht : T.ok (fun x_ => x_ = .agg (ST (.own 0) (stL xs per.toNat) (stS xs per.toNat) (stX xs per.toNat) 0)) (
      T.ob (0 ≤ per ∧ per ≤ (↑(List.length xs) : Int))
        (T.ob ((VCall P) g_impl_mean [AV.sl (Tag.par [0]) 0 (Cont.f FloatKind.f32 (List.take (Int.toNat per) (List.drop 0 xs)))] (AV.f FloatKind.f32 (meanM (List.take (Int.toNat per) (List.drop 0 xs)))))
          (T.ob (false = false)
            (T.ite (decide ((↑(List.length xs) : Int) ≥ IntKind.wrap IntKind.i64 (2 * per)))
              (T.ob (0 ≤ per ∧ per ≤ IntKind.wrap IntKind.i64 (2 * per) ∧ IntKind.wrap IntKind.i64 (2 * per) ≤ (↑(List.length xs) : Int))
                (T.ob
                  ((VCall P) g_impl_mean [AV.sl (Tag.par [0]) 0 (Cont.f FloatKind.f32 (List.take (Int.toNat (IntKind.wrap IntKind.i64 (2 * per)) - Int.toNat per) (List.drop (Int.toNat per) xs)))]
                    (AV.f FloatKind.f32 (meanM (List.take (Int.toNat (IntKind.wrap IntKind.i64 (2 * per)) - Int.toNat per) (List.drop (Int.toNat per) xs)))))
                  (T.ob True
                    (T.ob True
                      (T.ob (false = false)
                        (T.ob (0 ≤ per ∧ per ≤ (↑(List.length xs) : Int))
                          (T.ob
                            ((VCall P) g_impl_lessOne [AV.sl (Tag.par [0]) 0 (Cont.f FloatKind.f32 (List.take (Int.toNat per) (List.drop 0 xs))), AV.f FloatKind.f32 (meanM (List.take (Int.toNat per) (List.drop 0 xs)))]
                              (AV.sl (Tag.own 0) 0 (Cont.f FloatKind.f32 (lessOneM (List.take (Int.toNat per) (List.drop 0 xs)) (meanM (List.take (Int.toNat per) (List.drop 0 xs)))))))
                            (T.ob (false = false)
                              (T.ite (per == 1)
                                (T.ob (false = false)
                                  (T.ob (false = false)
                                    (T.leaf
                                      (AV.agg
                                        [AV.f FloatKind.f32 (meanM (List.take (Int.toNat per) (List.drop 0 xs))),
                                          AV.f FloatKind.f32
                                            (fdiv FloatKind.f32
                                              (fsub FloatKind.f32 (meanM (List.take (Int.toNat (IntKind.wrap IntKind.i64 (2 * per)) - Int.toNat per) (List.drop (Int.toNat per) xs)))
                                                (meanM (List.take (Int.toNat per) (List.drop 0 xs))))
                                              (fofi FloatKind.f32 per)),
                                          AV.sl (Tag.own 0) 0 (Cont.f FloatKind.f32 [0]), AV.i IntKind.i64 0]))))
                                (T.ob (false = false)
                                  (T.leaf
                                    (AV.agg
                                      [AV.f FloatKind.f32 (meanM (List.take (Int.toNat per) (List.drop 0 xs))),
                                        AV.f FloatKind.f32
                                          (fdiv FloatKind.f32
                                            (fsub FloatKind.f32 (meanM (List.take (Int.toNat (IntKind.wrap IntKind.i64 (2 * per)) - Int.toNat per) (List.drop (Int.toNat per) xs)))
                                              (meanM (List.take (Int.toNat per) (List.drop 0 xs))))
                                            (fofi FloatKind.f32 per)),
                                        AV.sl (Tag.own 0) 0 (Cont.f FloatKind.f32 (lessOneM (List.take (Int.toNat per) (List.drop 0 xs)) (meanM (List.take (Int.toNat per) (List.drop 0 xs))))), AV.i IntKind.i64 0]))))))))))))
              (T.ob (0 ≤ per ∧ per ≤ (↑(List.length xs) : Int))
                (T.ob
                  ((VCall P) g_impl_lessOne [AV.sl (Tag.par [0]) 0 (Cont.f FloatKind.f32 (List.take (Int.toNat per) (List.drop 0 xs))), AV.f FloatKind.f32 (meanM (List.take (Int.toNat per) (List.drop 0 xs)))]
                    (AV.sl (Tag.own 0) 0 (Cont.f FloatKind.f32 (lessOneM (List.take (Int.toNat per) (List.drop 0 xs)) (meanM (List.take (Int.toNat per) (List.drop 0 xs)))))))
                  (T.ob (false = false)
                    (T.ite (per == 1)
                      (T.ob (false = false)
                        (T.ob (false = false)
                          (T.leaf (AV.agg [AV.f FloatKind.f32 (meanM (List.take (Int.toNat per) (List.drop 0 xs))), AV.f FloatKind.f32 0, AV.sl (Tag.own 0) 0 (Cont.f FloatKind.f32 [0]), AV.i IntKind.i64 0]))))
                      (T.ob (false = false)
                        (T.leaf
                          (AV.agg
                            [AV.f FloatKind.f32 (meanM (List.take (Int.toNat per) (List.drop 0 xs))), AV.f FloatKind.f32 0,
                              AV.sl (Tag.own 0) 0 (Cont.f FloatKind.f32 (lessOneM (List.take (Int.toNat per) (List.drop 0 xs)) (meanM (List.take (Int.toNat per) (List.drop 0 xs))))), AV.i IntKind.i64 0])))))))))))) :
    VCall P g_f [PS [0] .f32 xs, .i .i64 per] (.agg (ST (.own 0) (stL xs per.toNat) (stS xs per.toNat) (stX xs per.toNat) 0)) := h_.call_of ps_impl_startState ⟨oc_impl_startState xs per, fun _ _ => none⟩ (by kernel_rfl) ht

-- END impl_startState

-- FN impl_ifState
/-- impl.ifState: slots 9, results [.row 2 4, .t 3]; calls [5:g_impl_ValidState]; names [(s, 0), (s, 1)] -/
def ps_impl_ifState : List Nat := [0, 1, 2, 3, 6]
def b_impl_ifState (g_impl_ValidState : FuncId) : VCode :=
  (.seq
   (.region false [
    ⟨some 1, .boxN, [.t 0], none⟩,
    ⟨some 2, (.alloc [(.f .f32 0), (.f .f32 0), (.sl .imm 0 (.f .f32 [])), (.i .i64 0)]), [], none⟩,
    ⟨some 3, .mv, [.k (.b false)], none⟩])
   (.seq
    (.seq
     (.region false [
      ⟨some 4, (.loadN 4), [.t 1], none⟩,
      ⟨some 5, (.call g_impl_ValidState), [.t 4], none⟩,
      ⟨some 6, .not, [.t 5], none⟩])
     (.cond (.t 6)
      (.seq
       (.region false [
        ⟨some 7, (.build [(.f .f32 0), (.f .f32 0), (.sl .nil 0 (.f .f32 [])), (.i .i64 0)] []), [], none⟩,
        ⟨none, (.storeN 4), [.t 2, .t 7], none⟩,
        ⟨some 3, .mv, [.k (.b false)], none⟩])
       .ret)
      .skip))
    (.seq
     (.region false [
      ⟨some 8, (.loadN 4), [.t 1], none⟩,
      ⟨none, (.storeN 4), [.t 2, .t 8], none⟩,
      ⟨some 3, .mv, [.k (.b true)], none⟩])
     .ret)))

abbrev Is_impl_ifState (P : Program) (g_f : FuncId) (g_impl_ValidState : FuncId) : Prop := FnIs P g_f 9 [.row 2 4, .t 3] (b_impl_ifState g_impl_ValidState)

abbrev C_impl_ifState (P : Program) (g_f : FuncId) : Prop := ∀ (l : Nat) (s : Nat) (xs : List Nat) (t : Int) (hx : xs.length ≤ maxLen), VCall P g_f [.agg (ST (.par [0, 2]) l s xs t)] (.tup [.agg (ST (.par [0, 2]) (iv (validStateM l s xs t) l) (iv (validStateM l s xs t) s) (ivl (validStateM l s xs t) xs) (ivi (validStateM l s xs t) t)), .b (validStateM l s xs t)])
def oc1_impl_ifState (as : List AV) : T AV := match as with | [.agg [.f _ l, .f _ s, .sl _ _ (.f _ xs), .i _ t]] => .leaf (.tup [.agg (ST (.par [0, 2]) (iv (validStateM l s xs t) l) (iv (validStateM l s xs t) s) (ivl (validStateM l s xs t) xs) (ivi (validStateM l s xs t) t)), .b (validStateM l s xs t)]) | _ => .fail
def oc_impl_ifState (l : Nat) (s : Nat) (xs : List Nat) (t : Int) (d : Nat) (as : List AV) : T AV := match d with | 5 => oc1_impl_ValidState as | _ => .fail



theorem q_impl_ifState {P : Program} {g_f : FuncId} {g_impl_ValidState : FuncId} (h_ : Is_impl_ifState P g_f g_impl_ValidState) (l : Nat) (s : Nat) (xs : List Nat) (t : Int) (ht : T.ok (fun x_ => x_ = .tup [.agg (ST (.par [0, 2]) (iv (validStateM l s xs t) l) (iv (validStateM l s xs t) s) (ivl (validStateM l s xs t) xs) (ivi (validStateM l s xs t) t)), .b (validStateM l s xs t)]) (
      T.ob (false = false)
        (T.ob ((VCall P) g_impl_ValidState [AV.agg [AV.f FloatKind.f32 l, AV.f FloatKind.f32 s, AV.sl (Tag.par [0, 2]) 0 (Cont.f FloatKind.f32 xs), AV.i IntKind.i64 t]] (AV.b (validStateM l s xs t)))
          (T.ite (!validStateM l s xs t) (T.ob (false = false) (T.leaf (AV.tup [AV.agg [AV.f FloatKind.f32 0, AV.f FloatKind.f32 0, AV.sl (Tag.par [0, 2]) 0 (Cont.f FloatKind.f32 []), AV.i IntKind.i64 0], AV.b false])))
            (T.ob (false = false) (T.leaf (AV.tup [AV.agg [AV.f FloatKind.f32 l, AV.f FloatKind.f32 s, AV.sl (Tag.par [0, 2]) 0 (Cont.f FloatKind.f32 xs), AV.i IntKind.i64 t], AV.b true]))))))) :
    VCall P g_f [.agg (ST (.par [0, 2]) l s xs t)] (.tup [.agg (ST (.par [0, 2]) (iv (validStateM l s xs t) l) (iv (validStateM l s xs t) s) (ivl (validStateM l s xs t) xs) (ivi (validStateM l s xs t) t)), .b (validStateM l s xs t)]) := h_.call_of ps_impl_ifState ⟨oc_impl_ifState l s xs t, fun _ _ => none⟩ (by kernel_rfl) ht

-- END impl_ifState

-- FN spec_l04Give
/-- spec.l04Give: slots 8, results [.row 2 4, .t 3]; calls [4:g_spec_l04Is]; names [(s, 0), (s, 1)] -/
def ps_spec_l04Give : List Nat := [0, 1, 2, 3, 5]
def b_spec_l04Give (g_spec_l04Is : FuncId) : VCode :=
  (.seq
   (.region false [
    ⟨some 1, .boxN, [.t 0], none⟩,
    ⟨some 2, (.alloc [(.f .f32 0), (.f .f32 0), (.sl .imm 0 (.f .f32 [])), (.i .i64 0)]), [], none⟩,
    ⟨some 3, .mv, [.k (.b false)], none⟩])
   (.seq
    (.seq
     (.region false [
      ⟨some 4, (.call g_spec_l04Is), [.t 1], none⟩,
      ⟨some 5, .not, [.t 4], none⟩])
     (.cond (.t 5)
      (.seq
       (.region false [
        ⟨some 6, (.build [(.f .f32 0), (.f .f32 0), (.sl .nil 0 (.f .f32 [])), (.i .i64 0)] []), [], none⟩,
        ⟨none, (.storeN 4), [.t 2, .t 6], none⟩,
        ⟨some 3, .mv, [.k (.b false)], none⟩])
       .ret)
      .skip))
    (.seq
     (.region false [
      ⟨some 7, (.loadN 4), [.t 1], none⟩,
      ⟨none, (.storeN 4), [.t 2, .t 7], none⟩,
      ⟨some 3, .mv, [.k (.b true)], none⟩])
     .ret)))

abbrev Is_spec_l04Give (P : Program) (g_f : FuncId) (g_spec_l04Is : FuncId) : Prop := FnIs P g_f 8 [.row 2 4, .t 3] (b_spec_l04Give g_spec_l04Is)

abbrev C_spec_l04Give (P : Program) (g_f : FuncId) : Prop := ∀ (l : Nat) (s : Nat) (xs : List Nat) (t : Int) (hx : xs.length ≤ maxLen), VCall P g_f [.agg (ST (.par [0, 2]) l s xs t)] (.tup [.agg (ST (.par [0, 2]) (iv (validStateM l s xs t) l) (iv (validStateM l s xs t) s) (ivl (validStateM l s xs t) xs) (ivi (validStateM l s xs t) t)), .b (validStateM l s xs t)])
def oc1_spec_l04Give (as : List AV) : T AV := match as with | [.agg [.f _ l, .f _ s, .sl _ _ (.f _ xs), .i _ t]] => .leaf (.tup [.agg (ST (.par [0, 2]) (iv (validStateM l s xs t) l) (iv (validStateM l s xs t) s) (ivl (validStateM l s xs t) xs) (ivi (validStateM l s xs t) t)), .b (validStateM l s xs t)]) | _ => .fail
def oc_spec_l04Give (l : Nat) (s : Nat) (xs : List Nat) (t : Int) (d : Nat) (as : List AV) : T AV := match d with | 4 => oc1_spec_l04Is as | _ => .fail



theorem q_spec_l04Give {P : Program} {g_f : FuncId} {g_spec_l04Is : FuncId} (h_ : Is_spec_l04Give P g_f g_spec_l04Is) (l : Nat) (s : Nat) (xs : List Nat) (t : Int) (ht : T.ok (fun x_ => x_ = .tup [.agg (ST (.par [0, 2]) (iv (validStateM l s xs t) l) (iv (validStateM l s xs t) s) (ivl (validStateM l s xs t) xs) (ivi (validStateM l s xs t) t)), .b (validStateM l s xs t)]) (
      T.ob (false = false)
        (T.ob ((VCall P) g_spec_l04Is [AV.bx (Tag.par [0]) [AV.f FloatKind.f32 l, AV.f FloatKind.f32 s, AV.sl (Tag.par [0, 2]) 0 (Cont.f FloatKind.f32 xs), AV.i IntKind.i64 t]] (AV.b (validStateM l s xs t)))
          (T.ite (!validStateM l s xs t) (T.ob (false = false) (T.leaf (AV.tup [AV.agg [AV.f FloatKind.f32 0, AV.f FloatKind.f32 0, AV.sl (Tag.par [0, 2]) 0 (Cont.f FloatKind.f32 []), AV.i IntKind.i64 0], AV.b false])))
            (T.ob (false = false) (T.leaf (AV.tup [AV.agg [AV.f FloatKind.f32 l, AV.f FloatKind.f32 s, AV.sl (Tag.par [0, 2]) 0 (Cont.f FloatKind.f32 xs), AV.i IntKind.i64 t], AV.b true]))))))) :
    VCall P g_f [.agg (ST (.par [0, 2]) l s xs t)] (.tup [.agg (ST (.par [0, 2]) (iv (validStateM l s xs t) l) (iv (validStateM l s xs t) s) (ivl (validStateM l s xs t) xs) (ivi (validStateM l s xs t) t)), .b (validStateM l s xs t)]) := h_.call_of ps_spec_l04Give ⟨oc_spec_l04Give l s xs t, fun _ _ => none⟩ (by kernel_rfl) ht

-- END spec_l04Give

-- FN impl_StartState
/-- impl.StartState: slots 17, results [.row 4 4, .t 5]; calls [8:g_impl_isPeriod, 13:g_impl_startState, 14:g_impl_ifState]; names [(list, 0), (period, 1), (list, 2), (period, 3)] -/
def ps_impl_StartState : List Nat := [0, 1, 4, 5, 9]
def b_impl_StartState (g_impl_isPeriod g_impl_startState g_impl_ifState : FuncId) : VCode :=
  (.seq
   (.region false [
    ⟨some 4, (.alloc [(.f .f32 0), (.f .f32 0), (.sl .imm 0 (.f .f32 [])), (.i .i64 0)]), [], none⟩,
    ⟨some 5, .mv, [.k (.b false)], none⟩])
   (.seq
    (.seq
     (.region false [
      ⟨some 6, .mv, [.t 0], none⟩,
      ⟨some 7, .mv, [.t 1], none⟩,
      ⟨some 8, (.call g_impl_isPeriod), [.t 6, .t 7], none⟩,
      ⟨some 9, .not, [.t 8], none⟩])
     (.cond (.t 9)
      (.seq
       (.region false [
        ⟨some 10, (.build [(.f .f32 0), (.f .f32 0), (.sl .nil 0 (.f .f32 [])), (.i .i64 0)] []), [], none⟩,
        ⟨none, (.storeN 4), [.t 4, .t 10], none⟩,
        ⟨some 5, .mv, [.k (.b false)], none⟩])
       .ret)
      .skip))
    (.seq
     (.region false [
      ⟨some 11, .mv, [.t 0], none⟩,
      ⟨some 12, .mv, [.t 1], none⟩,
      ⟨some 13, (.call g_impl_startState), [.t 11, .t 12], none⟩,
      ⟨some 14, (.call g_impl_ifState), [.t 13], none⟩,
      ⟨some 15, (.extract 0), [.t 14], none⟩,
      ⟨some 16, (.extract 1), [.t 14], none⟩,
      ⟨none, (.storeN 4), [.t 4, .t 15], none⟩,
      ⟨some 5, .mv, [.t 16], none⟩])
     .ret)))

abbrev Is_impl_StartState (P : Program) (g_f : FuncId) (g_impl_isPeriod g_impl_startState g_impl_ifState : FuncId) : Prop := FnIs P g_f 17 [.row 4 4, .t 5] (b_impl_StartState g_impl_isPeriod g_impl_startState g_impl_ifState)

abbrev C_impl_StartState (P : Program) (g_f : FuncId) : Prop := ∀ (xs : List Nat) (per : Int) (hx : xs.length ≤ maxLen), VCall P g_f [PS [0] .f32 xs, .i .i64 per] (.tup [.agg (ST (.own 0) (iv (stOk xs per) (stL xs per.toNat)) (iv (stOk xs per) (stS xs per.toNat)) (ivl (stOk xs per) (stX xs per.toNat)) 0), .b (stOk xs per)])
def oc1_impl_StartState (as : List AV) : T AV := match as with | [.sl _ _ (.f .f32 xs), .i .i64 per] => .leaf (.tup [.agg (ST (.own 0) (iv (stOk xs per) (stL xs per.toNat)) (iv (stOk xs per) (stS xs per.toNat)) (ivl (stOk xs per) (stX xs per.toNat)) 0), .b (stOk xs per)]) | _ => .fail
def oc_impl_StartState (xs : List Nat) (per : Int) (d : Nat) (as : List AV) : T AV := match d with | 8 => oc1_impl_isPeriod as | 13 => oc1_impl_startState as | 14 => oc1_impl_ifState as | _ => .fail



theorem q_impl_StartState {P : Program} {g_f : FuncId} {g_impl_isPeriod g_impl_startState g_impl_ifState : FuncId} (h_ : Is_impl_StartState P g_f g_impl_isPeriod g_impl_startState g_impl_ifState) (xs : List Nat) (per : Int) (ht : T.ok (fun x_ => x_ = .tup [.agg (ST (.own 0) (iv (stOk xs per) (stL xs per.toNat)) (iv (stOk xs per) (stS xs per.toNat)) (ivl (stOk xs per) (stX xs per.toNat)) 0), .b (stOk xs per)]) (
      T.ob ((VCall P) g_impl_isPeriod [AV.sl (Tag.par [0]) 0 (Cont.f FloatKind.f32 xs), AV.i IntKind.i64 per] (AV.b (seriesM xs && inM per 1 (↑(List.length xs) : Int) && decide (per ≤ 24))))
        (T.ite (!(seriesM xs && inM per 1 (↑(List.length xs) : Int) && decide (per ≤ 24)))
          (T.ob (false = false) (T.leaf (AV.tup [AV.agg [AV.f FloatKind.f32 0, AV.f FloatKind.f32 0, AV.sl (Tag.own 0) 0 (Cont.f FloatKind.f32 []), AV.i IntKind.i64 0], AV.b false])))
          (T.ob
            ((VCall P) g_impl_startState [AV.sl (Tag.par [0]) 0 (Cont.f FloatKind.f32 xs), AV.i IntKind.i64 per]
              (AV.agg [AV.f FloatKind.f32 (stL xs (Int.toNat per)), AV.f FloatKind.f32 (stS xs (Int.toNat per)), AV.sl (Tag.own 0) 0 (Cont.f FloatKind.f32 (stX xs (Int.toNat per))), AV.i IntKind.i64 0]))
            (T.ob
              ((VCall P) g_impl_ifState [AV.agg [AV.f FloatKind.f32 (stL xs (Int.toNat per)), AV.f FloatKind.f32 (stS xs (Int.toNat per)), AV.sl (Tag.par [0, 2]) 0 (Cont.f FloatKind.f32 (stX xs (Int.toNat per))), AV.i IntKind.i64 0]]
                (AV.tup
                  [AV.agg
                      [AV.f FloatKind.f32 (iv (validStateM (stL xs (Int.toNat per)) (stS xs (Int.toNat per)) (stX xs (Int.toNat per)) 0) (stL xs (Int.toNat per))),
                        AV.f FloatKind.f32 (iv (validStateM (stL xs (Int.toNat per)) (stS xs (Int.toNat per)) (stX xs (Int.toNat per)) 0) (stS xs (Int.toNat per))),
                        AV.sl (Tag.par [0, 2]) 0 (Cont.f FloatKind.f32 (ivl (validStateM (stL xs (Int.toNat per)) (stS xs (Int.toNat per)) (stX xs (Int.toNat per)) 0) (stX xs (Int.toNat per)))),
                        AV.i IntKind.i64 (ivi (validStateM (stL xs (Int.toNat per)) (stS xs (Int.toNat per)) (stX xs (Int.toNat per)) 0) 0)],
                    AV.b (validStateM (stL xs (Int.toNat per)) (stS xs (Int.toNat per)) (stX xs (Int.toNat per)) 0)]))
              (T.ob (false = false)
                (T.leaf
                  (AV.tup
                    [AV.agg
                        [AV.f FloatKind.f32 (iv (validStateM (stL xs (Int.toNat per)) (stS xs (Int.toNat per)) (stX xs (Int.toNat per)) 0) (stL xs (Int.toNat per))),
                          AV.f FloatKind.f32 (iv (validStateM (stL xs (Int.toNat per)) (stS xs (Int.toNat per)) (stX xs (Int.toNat per)) 0) (stS xs (Int.toNat per))),
                          AV.sl (Tag.own 0) 0 (Cont.f FloatKind.f32 (ivl (validStateM (stL xs (Int.toNat per)) (stS xs (Int.toNat per)) (stX xs (Int.toNat per)) 0) (stX xs (Int.toNat per)))),
                          AV.i IntKind.i64 (ivi (validStateM (stL xs (Int.toNat per)) (stS xs (Int.toNat per)) (stX xs (Int.toNat per)) 0) 0)],
                      AV.b (validStateM (stL xs (Int.toNat per)) (stS xs (Int.toNat per)) (stX xs (Int.toNat per)) 0)])))))))) :
    VCall P g_f [PS [0] .f32 xs, .i .i64 per] (.tup [.agg (ST (.own 0) (iv (stOk xs per) (stL xs per.toNat)) (iv (stOk xs per) (stS xs per.toNat)) (ivl (stOk xs per) (stX xs per.toNat)) 0), .b (stOk xs per)]) := h_.call_of ps_impl_StartState ⟨oc_impl_StartState xs per, fun _ _ => none⟩ (by kernel_rfl) ht

-- END impl_StartState

-- FN spec_StartState
/-- spec.StartState: slots 60, results [.row 4 4, .t 5]; calls [11:g_spec_l02Series, 15:g_spec_l00In, 27:g_spec_l02Mean, 39:g_spec_l02Mean, 54:g_spec_l02Less, 57:g_spec_l04Give]; names [(list, 0), (period, 1), (list, 2), (period, 3), (n, 6), (out, 7)] -/
def ps_spec_StartState : List Nat := [0, 1, 4, 5, 6, 7, 22, 33, 48]
def b_spec_StartState (g_spec_l02Series g_spec_l00In g_spec_l02Mean g_spec_l02Less g_spec_l04Give : FuncId) : VCode :=
  (.seq
   (.region false [
    ⟨some 4, (.alloc [(.f .f32 0), (.f .f32 0), (.sl .imm 0 (.f .f32 [])), (.i .i64 0)]), [], none⟩,
    ⟨some 5, .mv, [.k (.b false)], none⟩])
   (.seq
    (.region false [
     ⟨some 8, .mv, [.t 0], none⟩,
     ⟨some 9, .len, [.t 8], none⟩,
     ⟨some 6, .mv, [.t 9], none⟩])
    (.seq
     (.seq
      (.region false [
       ⟨some 10, .mv, [.t 0], none⟩,
       ⟨some 11, (.call g_spec_l02Series), [.t 10], none⟩,
       ⟨some 12, .not, [.t 11], none⟩,
       ⟨some 13, .mv, [.t 12], none⟩,
       ⟨some 14, .mv, [.t 1], some (13, false)⟩,
       ⟨some 15, (.call g_spec_l00In), [.t 14, .k (.i .i64 1), .k (.i .i64 24)], some (13, false)⟩,
       ⟨some 16, .not, [.t 15], some (13, false)⟩,
       ⟨some 17, .pick, [.t 13, .k (.b true), .t 16], none⟩,
       ⟨some 18, .mv, [.t 17], none⟩,
       ⟨some 19, .mv, [.t 6], some (18, false)⟩,
       ⟨some 20, .mv, [.t 1], some (18, false)⟩,
       ⟨some 21, (.bin .lss), [.t 19, .t 20], some (18, false)⟩,
       ⟨some 22, .pick, [.t 18, .k (.b true), .t 21], none⟩])
      (.cond (.t 22)
       (.seq
        (.region false [
         ⟨some 23, (.build [(.f .f32 0), (.f .f32 0), (.sl .nil 0 (.f .f32 [])), (.i .i64 0)] []), [], none⟩,
         ⟨none, (.storeN 4), [.t 4, .t 23], none⟩,
         ⟨some 5, .mv, [.k (.b false)], none⟩])
        .ret)
       .skip))
     (.seq
      (.region false [
       ⟨some 24, .mv, [.t 0], none⟩,
       ⟨some 25, .mv, [.t 1], none⟩,
       ⟨some 26, (.slice false true false), [.t 24, .t 25], none⟩,
       ⟨some 27, (.call g_spec_l02Mean), [.t 26], none⟩,
       ⟨some 28, (.lit true (.f .f32 [])), [.k (.f .f32 0)], none⟩,
       ⟨some 29, (.build [(.f .f32 0), (.f .f32 0), (.sl .nil 0 (.f .f32 [])), (.i .i64 0)] [0, 2]), [.t 27, .t 28], none⟩,
       ⟨some 7, (.alloc [(.f .f32 0), (.f .f32 0), (.sl .imm 0 (.f .f32 [])), (.i .i64 0)]), [], none⟩,
       ⟨none, (.storeN 4), [.t 7, .t 29], none⟩])
      (.seq
       (.seq
        (.region false [
         ⟨some 30, .mv, [.t 6], none⟩,
         ⟨some 31, .mv, [.t 1], none⟩,
         ⟨some 32, (.bin .mul), [.k (.i .i64 2), .t 31], none⟩,
         ⟨some 33, (.bin .geq), [.t 30, .t 32], none⟩])
        (.cond (.t 33)
         (.region true [
          ⟨some 34, .mv, [.t 0], none⟩,
          ⟨some 35, .mv, [.t 1], none⟩,
          ⟨some 36, .mv, [.t 1], none⟩,
          ⟨some 37, (.bin .mul), [.k (.i .i64 2), .t 36], none⟩,
          ⟨some 38, (.slice true true false), [.t 34, .t 35, .t 37], none⟩,
          ⟨some 39, (.call g_spec_l02Mean), [.t 38], none⟩,
          ⟨some 40, (.faddr 0), [.t 7], none⟩,
          ⟨some 41, .load, [.t 40], none⟩,
          ⟨some 42, (.bin .sub), [.t 39, .t 41], none⟩,
          ⟨some 43, .mv, [.t 1], none⟩,
          ⟨some 44, (.convF .f32), [.t 43], none⟩,
          ⟨some 45, (.bin .quo), [.t 42, .t 44], none⟩,
          ⟨some 46, (.faddr 1), [.t 7], none⟩,
          ⟨none, .store, [.t 46, .t 45], none⟩])
         .skip))
       (.seq
        (.seq
         (.region false [
          ⟨some 47, .mv, [.t 1], none⟩,
          ⟨some 48, (.bin .gtr), [.t 47, .k (.i .i64 1)], none⟩])
         (.cond (.t 48)
          (.region true [
           ⟨some 49, .mv, [.t 0], none⟩,
           ⟨some 50, .mv, [.t 1], none⟩,
           ⟨some 51, (.slice false true false), [.t 49, .t 50], none⟩,
           ⟨some 52, (.faddr 0), [.t 7], none⟩,
           ⟨some 53, .load, [.t 52], none⟩,
           ⟨some 54, (.call g_spec_l02Less), [.t 51, .t 53], none⟩,
           ⟨some 55, (.faddr 2), [.t 7], none⟩,
           ⟨none, .store, [.t 55, .t 54], none⟩])
          .skip))
        (.seq
         (.region false [
          ⟨some 56, (.loadN 4), [.t 7], none⟩,
          ⟨some 57, (.call g_spec_l04Give), [.t 56], none⟩,
          ⟨some 58, (.extract 0), [.t 57], none⟩,
          ⟨some 59, (.extract 1), [.t 57], none⟩,
          ⟨none, (.storeN 4), [.t 4, .t 58], none⟩,
          ⟨some 5, .mv, [.t 59], none⟩])
         .ret)))))))

abbrev Is_spec_StartState (P : Program) (g_f : FuncId) (g_spec_l02Series g_spec_l00In g_spec_l02Mean g_spec_l02Less g_spec_l04Give : FuncId) : Prop := FnIs P g_f 60 [.row 4 4, .t 5] (b_spec_StartState g_spec_l02Series g_spec_l00In g_spec_l02Mean g_spec_l02Less g_spec_l04Give)

abbrev C_spec_StartState (P : Program) (g_f : FuncId) : Prop := ∀ (xs : List Nat) (per : Int) (hx : xs.length ≤ maxLen), VCall P g_f [PS [0] .f32 xs, .i .i64 per] (.tup [.agg (ST (.own 0) (iv (stOk xs per) (stL xs per.toNat)) (iv (stOk xs per) (stS xs per.toNat)) (ivl (stOk xs per) (stX xs per.toNat)) 0), .b (stOk xs per)])
def oc1_spec_StartState (as : List AV) : T AV := match as with | [.sl _ _ (.f .f32 xs), .i .i64 per] => .leaf (.tup [.agg (ST (.own 0) (iv (stOk xs per) (stL xs per.toNat)) (iv (stOk xs per) (stS xs per.toNat)) (ivl (stOk xs per) (stX xs per.toNat)) 0), .b (stOk xs per)]) | _ => .fail
def oc_spec_StartState (xs : List Nat) (per : Int) (d : Nat) (as : List AV) : T AV := match d with | 11 => oc1_spec_l02Series as | 15 => oc1_spec_l00In as | 27 => oc1_spec_l02Mean as | 39 => oc1_spec_l02Mean as | 54 => oc1_spec_l02Less as | 57 => oc1_spec_l04Give as | _ => .fail



theorem q_spec_StartState {P : Program} {g_f : FuncId} {g_spec_l02Series g_spec_l00In g_spec_l02Mean g_spec_l02Less g_spec_l04Give : FuncId} (h_ : Is_spec_StartState P g_f g_spec_l02Series g_spec_l00In g_spec_l02Mean g_spec_l02Less g_spec_l04Give) (xs : List Nat) (per : Int) (ht : T.ok (fun x_ => x_ = .tup [.agg (ST (.own 0) (iv (stOk xs per) (stL xs per.toNat)) (iv (stOk xs per) (stS xs per.toNat)) (ivl (stOk xs per) (stX xs per.toNat)) 0), .b (stOk xs per)]) (
      T.ob ((VCall P) g_spec_l02Series [AV.sl (Tag.par [0]) 0 (Cont.f FloatKind.f32 xs)] (AV.b (seriesM xs)))
        (T.ite (!seriesM xs) (T.ob (false = false) (T.leaf (AV.tup [AV.agg [AV.f FloatKind.f32 0, AV.f FloatKind.f32 0, AV.sl (Tag.own 0) 0 (Cont.f FloatKind.f32 []), AV.i IntKind.i64 0], AV.b false])))
          (T.ob ((VCall P) g_spec_l00In [AV.i IntKind.i64 per, AV.i IntKind.i64 1, AV.i IntKind.i64 24] (AV.b (inM per 1 24)))
            (T.ite (!inM per 1 24) (T.ob (false = false) (T.leaf (AV.tup [AV.agg [AV.f FloatKind.f32 0, AV.f FloatKind.f32 0, AV.sl (Tag.own 0) 0 (Cont.f FloatKind.f32 []), AV.i IntKind.i64 0], AV.b false])))
              (T.ite (decide ((↑(List.length xs) : Int) < per))
                (T.ob (false = false) (T.leaf (AV.tup [AV.agg [AV.f FloatKind.f32 0, AV.f FloatKind.f32 0, AV.sl (Tag.own 0) 0 (Cont.f FloatKind.f32 []), AV.i IntKind.i64 0], AV.b false])))
                (T.ob (0 ≤ per ∧ per ≤ (↑(List.length xs) : Int))
                  (T.ob ((VCall P) g_spec_l02Mean [AV.sl (Tag.par [0]) 0 (Cont.f FloatKind.f32 (List.take (Int.toNat per) (List.drop 0 xs)))] (AV.f FloatKind.f32 (meanM (List.take (Int.toNat per) (List.drop 0 xs)))))
                    (T.ob (false = false)
                      (T.ite (decide ((↑(List.length xs) : Int) ≥ IntKind.wrap IntKind.i64 (2 * per)))
                        (T.ob (0 ≤ per ∧ per ≤ IntKind.wrap IntKind.i64 (2 * per) ∧ IntKind.wrap IntKind.i64 (2 * per) ≤ (↑(List.length xs) : Int))
                          (T.ob
                            ((VCall P) g_spec_l02Mean [AV.sl (Tag.par [0]) 0 (Cont.f FloatKind.f32 (List.take (Int.toNat (IntKind.wrap IntKind.i64 (2 * per)) - Int.toNat per) (List.drop (Int.toNat per) xs)))]
                              (AV.f FloatKind.f32 (meanM (List.take (Int.toNat (IntKind.wrap IntKind.i64 (2 * per)) - Int.toNat per) (List.drop (Int.toNat per) xs)))))
                            (T.ob True
                              (T.ob True
                                (T.ob (false = false)
                                  (T.ite (decide (per > 1))
                                    (T.ob (0 ≤ per ∧ per ≤ (↑(List.length xs) : Int))
                                      (T.ob
                                        ((VCall P) g_spec_l02Less [AV.sl (Tag.par [0]) 0 (Cont.f FloatKind.f32 (List.take (Int.toNat per) (List.drop 0 xs))), AV.f FloatKind.f32 (meanM (List.take (Int.toNat per) (List.drop 0 xs)))]
                                          (AV.sl (Tag.own 0) 0 (Cont.f FloatKind.f32 (lessOneM (List.take (Int.toNat per) (List.drop 0 xs)) (meanM (List.take (Int.toNat per) (List.drop 0 xs)))))))
                                        (T.ob (false = false)
                                          (T.ob
                                            ((VCall P) g_spec_l04Give
                                              [AV.agg
                                                  [AV.f FloatKind.f32 (meanM (List.take (Int.toNat per) (List.drop 0 xs))),
                                                    AV.f FloatKind.f32
                                                      (fdiv FloatKind.f32
                                                        (fsub FloatKind.f32 (meanM (List.take (Int.toNat (IntKind.wrap IntKind.i64 (2 * per)) - Int.toNat per) (List.drop (Int.toNat per) xs)))
                                                          (meanM (List.take (Int.toNat per) (List.drop 0 xs))))
                                                        (fofi FloatKind.f32 per)),
                                                    AV.sl (Tag.par [0, 2]) 0 (Cont.f FloatKind.f32 (lessOneM (List.take (Int.toNat per) (List.drop 0 xs)) (meanM (List.take (Int.toNat per) (List.drop 0 xs))))),
                                                    AV.i IntKind.i64 0]]
                                              (AV.tup
                                                [AV.agg
                                                    [AV.f FloatKind.f32
                                                        (iv
                                                          (validStateM (meanM (List.take (Int.toNat per) (List.drop 0 xs)))
                                                            (fdiv FloatKind.f32
                                                              (fsub FloatKind.f32 (meanM (List.take (Int.toNat (IntKind.wrap IntKind.i64 (2 * per)) - Int.toNat per) (List.drop (Int.toNat per) xs)))
                                                                (meanM (List.take (Int.toNat per) (List.drop 0 xs))))
                                                              (fofi FloatKind.f32 per))
                                                            (lessOneM (List.take (Int.toNat per) (List.drop 0 xs)) (meanM (List.take (Int.toNat per) (List.drop 0 xs)))) 0)
                                                          (meanM (List.take (Int.toNat per) (List.drop 0 xs)))),
                                                      AV.f FloatKind.f32
                                                        (iv
                                                          (validStateM (meanM (List.take (Int.toNat per) (List.drop 0 xs)))
                                                            (fdiv FloatKind.f32
                                                              (fsub FloatKind.f32 (meanM (List.take (Int.toNat (IntKind.wrap IntKind.i64 (2 * per)) - Int.toNat per) (List.drop (Int.toNat per) xs)))
                                                                (meanM (List.take (Int.toNat per) (List.drop 0 xs))))
                                                              (fofi FloatKind.f32 per))
                                                            (lessOneM (List.take (Int.toNat per) (List.drop 0 xs)) (meanM (List.take (Int.toNat per) (List.drop 0 xs)))) 0)
                                                          (fdiv FloatKind.f32
                                                            (fsub FloatKind.f32 (meanM (List.take (Int.toNat (IntKind.wrap IntKind.i64 (2 * per)) - Int.toNat per) (List.drop (Int.toNat per) xs)))
                                                              (meanM (List.take (Int.toNat per) (List.drop 0 xs))))
                                                            (fofi FloatKind.f32 per))),
                                                      AV.sl (Tag.par [0, 2]) 0
                                                        (Cont.f FloatKind.f32
                                                          (ivl
                                                            (validStateM (meanM (List.take (Int.toNat per) (List.drop 0 xs)))
                                                              (fdiv FloatKind.f32
                                                                (fsub FloatKind.f32 (meanM (List.take (Int.toNat (IntKind.wrap IntKind.i64 (2 * per)) - Int.toNat per) (List.drop (Int.toNat per) xs)))
                                                                  (meanM (List.take (Int.toNat per) (List.drop 0 xs))))
                                                                (fofi FloatKind.f32 per))
                                                              (lessOneM (List.take (Int.toNat per) (List.drop 0 xs)) (meanM (List.take (Int.toNat per) (List.drop 0 xs)))) 0)
                                                            (lessOneM (List.take (Int.toNat per) (List.drop 0 xs)) (meanM (List.take (Int.toNat per) (List.drop 0 xs)))))),
                                                      AV.i IntKind.i64
                                                        (ivi
                                                          (validStateM (meanM (List.take (Int.toNat per) (List.drop 0 xs)))
                                                            (fdiv FloatKind.f32
                                                              (fsub FloatKind.f32 (meanM (List.take (Int.toNat (IntKind.wrap IntKind.i64 (2 * per)) - Int.toNat per) (List.drop (Int.toNat per) xs)))
                                                                (meanM (List.take (Int.toNat per) (List.drop 0 xs))))
                                                              (fofi FloatKind.f32 per))
                                                            (lessOneM (List.take (Int.toNat per) (List.drop 0 xs)) (meanM (List.take (Int.toNat per) (List.drop 0 xs)))) 0)
                                                          0)],
                                                  AV.b
                                                    (validStateM (meanM (List.take (Int.toNat per) (List.drop 0 xs)))
                                                      (fdiv FloatKind.f32
                                                        (fsub FloatKind.f32 (meanM (List.take (Int.toNat (IntKind.wrap IntKind.i64 (2 * per)) - Int.toNat per) (List.drop (Int.toNat per) xs)))
                                                          (meanM (List.take (Int.toNat per) (List.drop 0 xs))))
                                                        (fofi FloatKind.f32 per))
                                                      (lessOneM (List.take (Int.toNat per) (List.drop 0 xs)) (meanM (List.take (Int.toNat per) (List.drop 0 xs)))) 0)]))
                                            (T.ob (false = false)
                                              (T.leaf
                                                (AV.tup
                                                  [AV.agg
                                                      [AV.f FloatKind.f32
                                                          (iv
                                                            (validStateM (meanM (List.take (Int.toNat per) (List.drop 0 xs)))
                                                              (fdiv FloatKind.f32
                                                                (fsub FloatKind.f32 (meanM (List.take (Int.toNat (IntKind.wrap IntKind.i64 (2 * per)) - Int.toNat per) (List.drop (Int.toNat per) xs)))
                                                                  (meanM (List.take (Int.toNat per) (List.drop 0 xs))))
                                                                (fofi FloatKind.f32 per))
                                                              (lessOneM (List.take (Int.toNat per) (List.drop 0 xs)) (meanM (List.take (Int.toNat per) (List.drop 0 xs)))) 0)
                                                            (meanM (List.take (Int.toNat per) (List.drop 0 xs)))),
                                                        AV.f FloatKind.f32
                                                          (iv
                                                            (validStateM (meanM (List.take (Int.toNat per) (List.drop 0 xs)))
                                                              (fdiv FloatKind.f32
                                                                (fsub FloatKind.f32 (meanM (List.take (Int.toNat (IntKind.wrap IntKind.i64 (2 * per)) - Int.toNat per) (List.drop (Int.toNat per) xs)))
                                                                  (meanM (List.take (Int.toNat per) (List.drop 0 xs))))
                                                                (fofi FloatKind.f32 per))
                                                              (lessOneM (List.take (Int.toNat per) (List.drop 0 xs)) (meanM (List.take (Int.toNat per) (List.drop 0 xs)))) 0)
                                                            (fdiv FloatKind.f32
                                                              (fsub FloatKind.f32 (meanM (List.take (Int.toNat (IntKind.wrap IntKind.i64 (2 * per)) - Int.toNat per) (List.drop (Int.toNat per) xs)))
                                                                (meanM (List.take (Int.toNat per) (List.drop 0 xs))))
                                                              (fofi FloatKind.f32 per))),
                                                        AV.sl (Tag.own 0) 0
                                                          (Cont.f FloatKind.f32
                                                            (ivl
                                                              (validStateM (meanM (List.take (Int.toNat per) (List.drop 0 xs)))
                                                                (fdiv FloatKind.f32
                                                                  (fsub FloatKind.f32 (meanM (List.take (Int.toNat (IntKind.wrap IntKind.i64 (2 * per)) - Int.toNat per) (List.drop (Int.toNat per) xs)))
                                                                    (meanM (List.take (Int.toNat per) (List.drop 0 xs))))
                                                                  (fofi FloatKind.f32 per))
                                                                (lessOneM (List.take (Int.toNat per) (List.drop 0 xs)) (meanM (List.take (Int.toNat per) (List.drop 0 xs)))) 0)
                                                              (lessOneM (List.take (Int.toNat per) (List.drop 0 xs)) (meanM (List.take (Int.toNat per) (List.drop 0 xs)))))),
                                                        AV.i IntKind.i64
                                                          (ivi
                                                            (validStateM (meanM (List.take (Int.toNat per) (List.drop 0 xs)))
                                                              (fdiv FloatKind.f32
                                                                (fsub FloatKind.f32 (meanM (List.take (Int.toNat (IntKind.wrap IntKind.i64 (2 * per)) - Int.toNat per) (List.drop (Int.toNat per) xs)))
                                                                  (meanM (List.take (Int.toNat per) (List.drop 0 xs))))
                                                                (fofi FloatKind.f32 per))
                                                              (lessOneM (List.take (Int.toNat per) (List.drop 0 xs)) (meanM (List.take (Int.toNat per) (List.drop 0 xs)))) 0)
                                                            0)],
                                                    AV.b
                                                      (validStateM (meanM (List.take (Int.toNat per) (List.drop 0 xs)))
                                                        (fdiv FloatKind.f32
                                                          (fsub FloatKind.f32 (meanM (List.take (Int.toNat (IntKind.wrap IntKind.i64 (2 * per)) - Int.toNat per) (List.drop (Int.toNat per) xs)))
                                                            (meanM (List.take (Int.toNat per) (List.drop 0 xs))))
                                                          (fofi FloatKind.f32 per))
                                                        (lessOneM (List.take (Int.toNat per) (List.drop 0 xs)) (meanM (List.take (Int.toNat per) (List.drop 0 xs)))) 0)])))))))
                                    (T.ob
                                      ((VCall P) g_spec_l04Give
                                        [AV.agg
                                            [AV.f FloatKind.f32 (meanM (List.take (Int.toNat per) (List.drop 0 xs))),
                                              AV.f FloatKind.f32
                                                (fdiv FloatKind.f32
                                                  (fsub FloatKind.f32 (meanM (List.take (Int.toNat (IntKind.wrap IntKind.i64 (2 * per)) - Int.toNat per) (List.drop (Int.toNat per) xs)))
                                                    (meanM (List.take (Int.toNat per) (List.drop 0 xs))))
                                                  (fofi FloatKind.f32 per)),
                                              AV.sl (Tag.par [0, 2]) 0 (Cont.f FloatKind.f32 [0]), AV.i IntKind.i64 0]]
                                        (AV.tup
                                          [AV.agg
                                              [AV.f FloatKind.f32
                                                  (iv
                                                    (validStateM (meanM (List.take (Int.toNat per) (List.drop 0 xs)))
                                                      (fdiv FloatKind.f32
                                                        (fsub FloatKind.f32 (meanM (List.take (Int.toNat (IntKind.wrap IntKind.i64 (2 * per)) - Int.toNat per) (List.drop (Int.toNat per) xs)))
                                                          (meanM (List.take (Int.toNat per) (List.drop 0 xs))))
                                                        (fofi FloatKind.f32 per))
                                                      [0] 0)
                                                    (meanM (List.take (Int.toNat per) (List.drop 0 xs)))),
                                                AV.f FloatKind.f32
                                                  (iv
                                                    (validStateM (meanM (List.take (Int.toNat per) (List.drop 0 xs)))
                                                      (fdiv FloatKind.f32
                                                        (fsub FloatKind.f32 (meanM (List.take (Int.toNat (IntKind.wrap IntKind.i64 (2 * per)) - Int.toNat per) (List.drop (Int.toNat per) xs)))
                                                          (meanM (List.take (Int.toNat per) (List.drop 0 xs))))
                                                        (fofi FloatKind.f32 per))
                                                      [0] 0)
                                                    (fdiv FloatKind.f32
                                                      (fsub FloatKind.f32 (meanM (List.take (Int.toNat (IntKind.wrap IntKind.i64 (2 * per)) - Int.toNat per) (List.drop (Int.toNat per) xs)))
                                                        (meanM (List.take (Int.toNat per) (List.drop 0 xs))))
                                                      (fofi FloatKind.f32 per))),
                                                AV.sl (Tag.par [0, 2]) 0
                                                  (Cont.f FloatKind.f32
                                                    (ivl
                                                      (validStateM (meanM (List.take (Int.toNat per) (List.drop 0 xs)))
                                                        (fdiv FloatKind.f32
                                                          (fsub FloatKind.f32 (meanM (List.take (Int.toNat (IntKind.wrap IntKind.i64 (2 * per)) - Int.toNat per) (List.drop (Int.toNat per) xs)))
                                                            (meanM (List.take (Int.toNat per) (List.drop 0 xs))))
                                                          (fofi FloatKind.f32 per))
                                                        [0] 0)
                                                      [0])),
                                                AV.i IntKind.i64
                                                  (ivi
                                                    (validStateM (meanM (List.take (Int.toNat per) (List.drop 0 xs)))
                                                      (fdiv FloatKind.f32
                                                        (fsub FloatKind.f32 (meanM (List.take (Int.toNat (IntKind.wrap IntKind.i64 (2 * per)) - Int.toNat per) (List.drop (Int.toNat per) xs)))
                                                          (meanM (List.take (Int.toNat per) (List.drop 0 xs))))
                                                        (fofi FloatKind.f32 per))
                                                      [0] 0)
                                                    0)],
                                            AV.b
                                              (validStateM (meanM (List.take (Int.toNat per) (List.drop 0 xs)))
                                                (fdiv FloatKind.f32
                                                  (fsub FloatKind.f32 (meanM (List.take (Int.toNat (IntKind.wrap IntKind.i64 (2 * per)) - Int.toNat per) (List.drop (Int.toNat per) xs)))
                                                    (meanM (List.take (Int.toNat per) (List.drop 0 xs))))
                                                  (fofi FloatKind.f32 per))
                                                [0] 0)]))
                                      (T.ob (false = false)
                                        (T.leaf
                                          (AV.tup
                                            [AV.agg
                                                [AV.f FloatKind.f32
                                                    (iv
                                                      (validStateM (meanM (List.take (Int.toNat per) (List.drop 0 xs)))
                                                        (fdiv FloatKind.f32
                                                          (fsub FloatKind.f32 (meanM (List.take (Int.toNat (IntKind.wrap IntKind.i64 (2 * per)) - Int.toNat per) (List.drop (Int.toNat per) xs)))
                                                            (meanM (List.take (Int.toNat per) (List.drop 0 xs))))
                                                          (fofi FloatKind.f32 per))
                                                        [0] 0)
                                                      (meanM (List.take (Int.toNat per) (List.drop 0 xs)))),
                                                  AV.f FloatKind.f32
                                                    (iv
                                                      (validStateM (meanM (List.take (Int.toNat per) (List.drop 0 xs)))
                                                        (fdiv FloatKind.f32
                                                          (fsub FloatKind.f32 (meanM (List.take (Int.toNat (IntKind.wrap IntKind.i64 (2 * per)) - Int.toNat per) (List.drop (Int.toNat per) xs)))
                                                            (meanM (List.take (Int.toNat per) (List.drop 0 xs))))
                                                          (fofi FloatKind.f32 per))
                                                        [0] 0)
                                                      (fdiv FloatKind.f32
                                                        (fsub FloatKind.f32 (meanM (List.take (Int.toNat (IntKind.wrap IntKind.i64 (2 * per)) - Int.toNat per) (List.drop (Int.toNat per) xs)))
                                                          (meanM (List.take (Int.toNat per) (List.drop 0 xs))))
                                                        (fofi FloatKind.f32 per))),
                                                  AV.sl (Tag.own 0) 0
                                                    (Cont.f FloatKind.f32
                                                      (ivl
                                                        (validStateM (meanM (List.take (Int.toNat per) (List.drop 0 xs)))
                                                          (fdiv FloatKind.f32
                                                            (fsub FloatKind.f32 (meanM (List.take (Int.toNat (IntKind.wrap IntKind.i64 (2 * per)) - Int.toNat per) (List.drop (Int.toNat per) xs)))
                                                              (meanM (List.take (Int.toNat per) (List.drop 0 xs))))
                                                            (fofi FloatKind.f32 per))
                                                          [0] 0)
                                                        [0])),
                                                  AV.i IntKind.i64
                                                    (ivi
                                                      (validStateM (meanM (List.take (Int.toNat per) (List.drop 0 xs)))
                                                        (fdiv FloatKind.f32
                                                          (fsub FloatKind.f32 (meanM (List.take (Int.toNat (IntKind.wrap IntKind.i64 (2 * per)) - Int.toNat per) (List.drop (Int.toNat per) xs)))
                                                            (meanM (List.take (Int.toNat per) (List.drop 0 xs))))
                                                          (fofi FloatKind.f32 per))
                                                        [0] 0)
                                                      0)],
                                              AV.b
                                                (validStateM (meanM (List.take (Int.toNat per) (List.drop 0 xs)))
                                                  (fdiv FloatKind.f32
                                                    (fsub FloatKind.f32 (meanM (List.take (Int.toNat (IntKind.wrap IntKind.i64 (2 * per)) - Int.toNat per) (List.drop (Int.toNat per) xs)))
                                                      (meanM (List.take (Int.toNat per) (List.drop 0 xs))))
                                                    (fofi FloatKind.f32 per))
                                                  [0] 0)]))))))))))
                        (T.ite (decide (per > 1))
                          (T.ob (0 ≤ per ∧ per ≤ (↑(List.length xs) : Int))
                            (T.ob
                              ((VCall P) g_spec_l02Less [AV.sl (Tag.par [0]) 0 (Cont.f FloatKind.f32 (List.take (Int.toNat per) (List.drop 0 xs))), AV.f FloatKind.f32 (meanM (List.take (Int.toNat per) (List.drop 0 xs)))]
                                (AV.sl (Tag.own 0) 0 (Cont.f FloatKind.f32 (lessOneM (List.take (Int.toNat per) (List.drop 0 xs)) (meanM (List.take (Int.toNat per) (List.drop 0 xs)))))))
                              (T.ob (false = false)
                                (T.ob
                                  ((VCall P) g_spec_l04Give
                                    [AV.agg
                                        [AV.f FloatKind.f32 (meanM (List.take (Int.toNat per) (List.drop 0 xs))), AV.f FloatKind.f32 0,
                                          AV.sl (Tag.par [0, 2]) 0 (Cont.f FloatKind.f32 (lessOneM (List.take (Int.toNat per) (List.drop 0 xs)) (meanM (List.take (Int.toNat per) (List.drop 0 xs))))), AV.i IntKind.i64 0]]
                                    (AV.tup
                                      [AV.agg
                                          [AV.f FloatKind.f32
                                              (iv
                                                (validStateM (meanM (List.take (Int.toNat per) (List.drop 0 xs))) 0 (lessOneM (List.take (Int.toNat per) (List.drop 0 xs)) (meanM (List.take (Int.toNat per) (List.drop 0 xs))))
                                                  0)
                                                (meanM (List.take (Int.toNat per) (List.drop 0 xs)))),
                                            AV.f FloatKind.f32
                                              (iv
                                                (validStateM (meanM (List.take (Int.toNat per) (List.drop 0 xs))) 0 (lessOneM (List.take (Int.toNat per) (List.drop 0 xs)) (meanM (List.take (Int.toNat per) (List.drop 0 xs))))
                                                  0)
                                                0),
                                            AV.sl (Tag.par [0, 2]) 0
                                              (Cont.f FloatKind.f32
                                                (ivl
                                                  (validStateM (meanM (List.take (Int.toNat per) (List.drop 0 xs))) 0 (lessOneM (List.take (Int.toNat per) (List.drop 0 xs)) (meanM (List.take (Int.toNat per) (List.drop 0 xs))))
                                                    0)
                                                  (lessOneM (List.take (Int.toNat per) (List.drop 0 xs)) (meanM (List.take (Int.toNat per) (List.drop 0 xs)))))),
                                            AV.i IntKind.i64
                                              (ivi
                                                (validStateM (meanM (List.take (Int.toNat per) (List.drop 0 xs))) 0 (lessOneM (List.take (Int.toNat per) (List.drop 0 xs)) (meanM (List.take (Int.toNat per) (List.drop 0 xs))))
                                                  0)
                                                0)],
                                        AV.b
                                          (validStateM (meanM (List.take (Int.toNat per) (List.drop 0 xs))) 0 (lessOneM (List.take (Int.toNat per) (List.drop 0 xs)) (meanM (List.take (Int.toNat per) (List.drop 0 xs)))) 0)]))
                                  (T.ob (false = false)
                                    (T.leaf
                                      (AV.tup
                                        [AV.agg
                                            [AV.f FloatKind.f32
                                                (iv
                                                  (validStateM (meanM (List.take (Int.toNat per) (List.drop 0 xs))) 0 (lessOneM (List.take (Int.toNat per) (List.drop 0 xs)) (meanM (List.take (Int.toNat per) (List.drop 0 xs))))
                                                    0)
                                                  (meanM (List.take (Int.toNat per) (List.drop 0 xs)))),
                                              AV.f FloatKind.f32
                                                (iv
                                                  (validStateM (meanM (List.take (Int.toNat per) (List.drop 0 xs))) 0 (lessOneM (List.take (Int.toNat per) (List.drop 0 xs)) (meanM (List.take (Int.toNat per) (List.drop 0 xs))))
                                                    0)
                                                  0),
                                              AV.sl (Tag.own 0) 0
                                                (Cont.f FloatKind.f32
                                                  (ivl
                                                    (validStateM (meanM (List.take (Int.toNat per) (List.drop 0 xs))) 0
                                                      (lessOneM (List.take (Int.toNat per) (List.drop 0 xs)) (meanM (List.take (Int.toNat per) (List.drop 0 xs)))) 0)
                                                    (lessOneM (List.take (Int.toNat per) (List.drop 0 xs)) (meanM (List.take (Int.toNat per) (List.drop 0 xs)))))),
                                              AV.i IntKind.i64
                                                (ivi
                                                  (validStateM (meanM (List.take (Int.toNat per) (List.drop 0 xs))) 0 (lessOneM (List.take (Int.toNat per) (List.drop 0 xs)) (meanM (List.take (Int.toNat per) (List.drop 0 xs))))
                                                    0)
                                                  0)],
                                          AV.b
                                            (validStateM (meanM (List.take (Int.toNat per) (List.drop 0 xs))) 0 (lessOneM (List.take (Int.toNat per) (List.drop 0 xs)) (meanM (List.take (Int.toNat per) (List.drop 0 xs))))
                                              0)])))))))
                          (T.ob
                            ((VCall P) g_spec_l04Give [AV.agg [AV.f FloatKind.f32 (meanM (List.take (Int.toNat per) (List.drop 0 xs))), AV.f FloatKind.f32 0, AV.sl (Tag.par [0, 2]) 0 (Cont.f FloatKind.f32 [0]), AV.i IntKind.i64 0]]
                              (AV.tup
                                [AV.agg
                                    [AV.f FloatKind.f32 (iv (validStateM (meanM (List.take (Int.toNat per) (List.drop 0 xs))) 0 [0] 0) (meanM (List.take (Int.toNat per) (List.drop 0 xs)))),
                                      AV.f FloatKind.f32 (iv (validStateM (meanM (List.take (Int.toNat per) (List.drop 0 xs))) 0 [0] 0) 0),
                                      AV.sl (Tag.par [0, 2]) 0 (Cont.f FloatKind.f32 (ivl (validStateM (meanM (List.take (Int.toNat per) (List.drop 0 xs))) 0 [0] 0) [0])),
                                      AV.i IntKind.i64 (ivi (validStateM (meanM (List.take (Int.toNat per) (List.drop 0 xs))) 0 [0] 0) 0)],
                                  AV.b (validStateM (meanM (List.take (Int.toNat per) (List.drop 0 xs))) 0 [0] 0)]))
                            (T.ob (false = false)
                              (T.leaf
                                (AV.tup
                                  [AV.agg
                                      [AV.f FloatKind.f32 (iv (validStateM (meanM (List.take (Int.toNat per) (List.drop 0 xs))) 0 [0] 0) (meanM (List.take (Int.toNat per) (List.drop 0 xs)))),
                                        AV.f FloatKind.f32 (iv (validStateM (meanM (List.take (Int.toNat per) (List.drop 0 xs))) 0 [0] 0) 0),
                                        AV.sl (Tag.own 0) 0 (Cont.f FloatKind.f32 (ivl (validStateM (meanM (List.take (Int.toNat per) (List.drop 0 xs))) 0 [0] 0) [0])),
                                        AV.i IntKind.i64 (ivi (validStateM (meanM (List.take (Int.toNat per) (List.drop 0 xs))) 0 [0] 0) 0)],
                                    AV.b (validStateM (meanM (List.take (Int.toNat per) (List.drop 0 xs))) 0 [0] 0)]))))))))))))))) :
    VCall P g_f [PS [0] .f32 xs, .i .i64 per] (.tup [.agg (ST (.own 0) (iv (stOk xs per) (stL xs per.toNat)) (iv (stOk xs per) (stS xs per.toNat)) (ivl (stOk xs per) (stX xs per.toNat)) 0), .b (stOk xs per)]) := h_.call_of ps_spec_StartState ⟨oc_spec_StartState xs per, fun _ _ => none⟩ (by kernel_rfl) ht

-- END spec_StartState

theorem k_impl_startState {P : Program} {f g1 g2 : FuncId} (h : Is_impl_startState P f g1 g2) (c1 : C_impl_mean P g1) (c2 : C_impl_lessOne P g2) : C_impl_startState P f := by
  intro xs per hp hx
  obtain ⟨k, rfl⟩ : ∃ k : Nat, per = k := ⟨per.toNat, by omega⟩
  refine q_impl_startState h xs _ ?_
  have e2 : IntKind.wrap .i64 (2 * (k : Int)) = (2 * k : Nat) := by rw [wrap64_id (by omega) (by omega)]; omega
  rw [e2]
  simp only [Int.toNat_natCast, List.drop_zero, show 2 * k - k = k by omega]
  have e3 : decide ((xs.length : Int) ≥ ((2 * k : Nat) : Int)) = decide (2 * k ≤ xs.length) := by rw [Bool.eq_iff_iff, decide_eq_true_eq, decide_eq_true_eq]; omega
  have e4 : ((k : Int) == 1) = decide (k = 1) := by rw [Bool.eq_iff_iff, beq_iff_eq, decide_eq_true_eq]; omega
  rw [e3, e4]
  have a1 := c1 (xs.take k) (by simp [maxLen_eq]; omega)
  have a2 := c1 ((xs.drop k).take k) (by simp [maxLen_eq]; omega)
  have a3 := c2 (xs.take k) (meanM (xs.take k)) (by simp; omega)
  cases hd1 : decide (2 * k ≤ xs.length) <;> cases hd2 : decide (k = 1)
  · have h1 := of_decide_eq_false hd1
    have h2 := of_decide_eq_false hd2
    repeat' (first | with_reducible refine T.ok_ob ?_ (fun _ => ?_) | with_reducible refine T.ok_ite (fun _ => ?_) (fun _ => ?_) | with_reducible refine T.ok_leaf ?_)
    all_goals (try simp only [decide_eq_true_eq, decide_eq_false_iff_not, Bool.not_eq_true', Bool.not_eq_false', Bool.not_eq_eq_eq_not, Bool.not_true, Bool.not_false, Int.toNat_natCast, tab_len, List.length_append, List.length_singleton, List.length_cons, List.length_nil, List.length_drop, List.length_take, getD_drop', getD_nat, reduceCtorEq] at *)
    all_goals (try simp (disch := omega) only [wrap64_id] at *)
    all_goals first | omega | (exfalso; omega) | exact True.intro | skip
    all_goals first | exact a1 | exact a2 | exact a3 | (unfold stS stX stL; rw [if_neg h1, if_neg h2])
  · have h1 := of_decide_eq_false hd1
    have h2 := of_decide_eq_true hd2
    repeat' (first | with_reducible refine T.ok_ob ?_ (fun _ => ?_) | with_reducible refine T.ok_ite (fun _ => ?_) (fun _ => ?_) | with_reducible refine T.ok_leaf ?_)
    all_goals (try simp only [decide_eq_true_eq, decide_eq_false_iff_not, Bool.not_eq_true', Bool.not_eq_false', Bool.not_eq_eq_eq_not, Bool.not_true, Bool.not_false, Int.toNat_natCast, tab_len, List.length_append, List.length_singleton, List.length_cons, List.length_nil, List.length_drop, List.length_take, getD_drop', getD_nat, reduceCtorEq] at *)
    all_goals (try simp (disch := omega) only [wrap64_id] at *)
    all_goals first | omega | (exfalso; omega) | exact True.intro | skip
    all_goals first | exact a1 | exact a2 | exact a3 | (unfold stS stX stL; rw [if_neg h1, if_pos h2])
  · have h1 := of_decide_eq_true hd1
    have h2 := of_decide_eq_false hd2
    repeat' (first | with_reducible refine T.ok_ob ?_ (fun _ => ?_) | with_reducible refine T.ok_ite (fun _ => ?_) (fun _ => ?_) | with_reducible refine T.ok_leaf ?_)
    all_goals (try simp only [decide_eq_true_eq, decide_eq_false_iff_not, Bool.not_eq_true', Bool.not_eq_false', Bool.not_eq_eq_eq_not, Bool.not_true, Bool.not_false, Int.toNat_natCast, tab_len, List.length_append, List.length_singleton, List.length_cons, List.length_nil, List.length_drop, List.length_take, getD_drop', getD_nat, reduceCtorEq] at *)
    all_goals (try simp (disch := omega) only [wrap64_id] at *)
    all_goals first | omega | (exfalso; omega) | exact True.intro | skip
    all_goals first | exact a1 | exact a2 | exact a3 | (unfold stS stX stL; rw [if_pos h1, if_neg h2])
  · have h1 := of_decide_eq_true hd1
    have h2 := of_decide_eq_true hd2
    repeat' (first | with_reducible refine T.ok_ob ?_ (fun _ => ?_) | with_reducible refine T.ok_ite (fun _ => ?_) (fun _ => ?_) | with_reducible refine T.ok_leaf ?_)
    all_goals (try simp only [decide_eq_true_eq, decide_eq_false_iff_not, Bool.not_eq_true', Bool.not_eq_false', Bool.not_eq_eq_eq_not, Bool.not_true, Bool.not_false, Int.toNat_natCast, tab_len, List.length_append, List.length_singleton, List.length_cons, List.length_nil, List.length_drop, List.length_take, getD_drop', getD_nat, reduceCtorEq] at *)
    all_goals (try simp (disch := omega) only [wrap64_id] at *)
    all_goals first | omega | (exfalso; omega) | exact True.intro | skip
    all_goals first | exact a1 | exact a2 | exact a3 | (unfold stS stX stL; rw [if_pos h1, if_pos h2])
theorem k_impl_ifState {P : Program} {f g : FuncId} (h : Is_impl_ifState P f g) (c1 : C_impl_ValidState P g) : C_impl_ifState P f := by
  intro l s xs t hx
  refine q_impl_ifState h l s xs t ?_
  have a1 := c1 l s xs t hx
  cases hv : validStateM l s xs t <;> rw [hv] at a1
  · repeat' (first | with_reducible refine T.ok_ob ?_ (fun _ => ?_) | with_reducible refine T.ok_ite (fun _ => ?_) (fun _ => ?_) | with_reducible refine T.ok_leaf ?_)
    all_goals (try simp only [decide_eq_true_eq, decide_eq_false_iff_not, Bool.not_eq_true', Bool.not_eq_false', Bool.not_eq_eq_eq_not, Bool.not_true, Bool.not_false, Int.toNat_natCast, tab_len, List.length_append, List.length_singleton, List.length_cons, List.length_nil, List.length_drop, List.length_take, getD_drop', getD_nat, reduceCtorEq] at *)
    all_goals (try simp (disch := omega) only [wrap64_id] at *)
    all_goals first | omega | (exfalso; omega) | exact True.intro | skip
    all_goals first | exact a1 | rfl
  · repeat' (first | with_reducible refine T.ok_ob ?_ (fun _ => ?_) | with_reducible refine T.ok_ite (fun _ => ?_) (fun _ => ?_) | with_reducible refine T.ok_leaf ?_)
    all_goals (try simp only [decide_eq_true_eq, decide_eq_false_iff_not, Bool.not_eq_true', Bool.not_eq_false', Bool.not_eq_eq_eq_not, Bool.not_true, Bool.not_false, Int.toNat_natCast, tab_len, List.length_append, List.length_singleton, List.length_cons, List.length_nil, List.length_drop, List.length_take, getD_drop', getD_nat, reduceCtorEq] at *)
    all_goals (try simp (disch := omega) only [wrap64_id] at *)
    all_goals first | omega | (exfalso; omega) | exact True.intro | skip
    all_goals first | exact a1 | rfl
theorem k_spec_l04Give {P : Program} {f g : FuncId} (h : Is_spec_l04Give P f g) (c1 : C_spec_l04Is P g) : C_spec_l04Give P f := by
  intro l s xs t hx
  refine q_spec_l04Give h l s xs t ?_
  have a1 := c1 l s xs t hx
  cases hv : validStateM l s xs t <;> rw [hv] at a1
  · repeat' (first | with_reducible refine T.ok_ob ?_ (fun _ => ?_) | with_reducible refine T.ok_ite (fun _ => ?_) (fun _ => ?_) | with_reducible refine T.ok_leaf ?_)
    all_goals (try simp only [decide_eq_true_eq, decide_eq_false_iff_not, Bool.not_eq_true', Bool.not_eq_false', Bool.not_eq_eq_eq_not, Bool.not_true, Bool.not_false, Int.toNat_natCast, tab_len, List.length_append, List.length_singleton, List.length_cons, List.length_nil, List.length_drop, List.length_take, getD_drop', getD_nat, reduceCtorEq] at *)
    all_goals (try simp (disch := omega) only [wrap64_id] at *)
    all_goals first | omega | (exfalso; omega) | exact True.intro | skip
    all_goals first | exact a1 | rfl
  · repeat' (first | with_reducible refine T.ok_ob ?_ (fun _ => ?_) | with_reducible refine T.ok_ite (fun _ => ?_) (fun _ => ?_) | with_reducible refine T.ok_leaf ?_)
    all_goals (try simp only [decide_eq_true_eq, decide_eq_false_iff_not, Bool.not_eq_true', Bool.not_eq_false', Bool.not_eq_eq_eq_not, Bool.not_true, Bool.not_false, Int.toNat_natCast, tab_len, List.length_append, List.length_singleton, List.length_cons, List.length_nil, List.length_drop, List.length_take, getD_drop', getD_nat, reduceCtorEq] at *)
    all_goals (try simp (disch := omega) only [wrap64_id] at *)
    all_goals first | omega | (exfalso; omega) | exact True.intro | skip
    all_goals first | exact a1 | rfl
theorem stX_len (xs : List Nat) (k : Nat) (h1 : 1 ≤ k) (h : k ≤ xs.length) : (stX xs k).length = k := by
  unfold stX
  split
  · rename_i h; simp [h]
  · rw [lessOne_len, List.length_take]; omega

theorem k_impl_StartState {P : Program} {f g1 g2 g3 : FuncId} (h : Is_impl_StartState P f g1 g2 g3) (c1 : C_impl_isPeriod P g1) (c2 : C_impl_startState P g2) (c3 : C_impl_ifState P g3) : C_impl_StartState P f := by
  intro xs per hx
  refine q_impl_StartState h xs per ?_
  have a1 := c1 xs per hx
  rw [per_cond] at a1 ⊢
  cases h0 : (seriesM xs && (inM per 1 24 && decide (per ≤ (xs.length : Int))))
  · rw [h0] at a1
    have e : stOk xs per = false := by
      unfold stOk
      revert h0
      cases seriesM xs <;> cases inM per 1 24 <;> cases decide (per ≤ (xs.length : Int)) <;> simp
    rw [e]
    repeat' (first | with_reducible refine T.ok_ob ?_ (fun _ => ?_) | with_reducible refine T.ok_ite (fun _ => ?_) (fun _ => ?_) | with_reducible refine T.ok_leaf ?_)
    all_goals (try simp only [decide_eq_true_eq, decide_eq_false_iff_not, Bool.not_eq_true', Bool.not_eq_false', Bool.not_eq_eq_eq_not, Bool.not_true, Bool.not_false, Int.toNat_natCast, tab_len, List.length_append, List.length_singleton, List.length_cons, List.length_nil, List.length_drop, List.length_take, getD_drop', getD_nat, reduceCtorEq] at *)
    all_goals (try simp (disch := omega) only [wrap64_id] at *)
    all_goals first | omega | (exfalso; omega) | exact True.intro | skip
    all_goals first | exact a1 | rfl
  · rw [h0] at a1
    have e : stOk xs per = validStateM (stL xs per.toNat) (stS xs per.toNat) (stX xs per.toNat) 0 := by
      unfold stOk
      revert h0
      cases seriesM xs <;> cases inM per 1 24 <;> cases decide (per ≤ (xs.length : Int)) <;> simp
    rw [e]
    simp only [Bool.and_eq_true, decide_eq_true_eq] at h0
    have hl := series_len h0.1
    have hi : 1 ≤ per ∧ per ≤ 24 := by simpa [inM] using h0.2.1
    have a2 := c2 xs per ⟨hi.1, h0.2.2⟩ hl.2
    have a3 := c3 (stL xs per.toNat) (stS xs per.toNat) (stX xs per.toNat) 0 (by rw [stX_len _ _ (by omega) (by omega), maxLen_eq]; omega)
    generalize validStateM (stL xs per.toNat) (stS xs per.toNat) (stX xs per.toNat) 0 = V at *
    repeat' (first | with_reducible refine T.ok_ob ?_ (fun _ => ?_) | with_reducible refine T.ok_ite (fun _ => ?_) (fun _ => ?_) | with_reducible refine T.ok_leaf ?_)
    all_goals (try simp only [decide_eq_true_eq, decide_eq_false_iff_not, Bool.not_eq_true', Bool.not_eq_false', Bool.not_eq_eq_eq_not, Bool.not_true, Bool.not_false, Int.toNat_natCast, tab_len, List.length_append, List.length_singleton, List.length_cons, List.length_nil, List.length_drop, List.length_take, getD_drop', getD_nat, reduceCtorEq] at *)
    all_goals (try simp (disch := omega) only [wrap64_id] at *)
    all_goals first | omega | (exfalso; omega) | exact True.intro | skip
    all_goals first | exact a1 | exact a2 | exact a3 | (cases V <;> rfl)
theorem k_spec_StartState {P : Program} {f g1 g2 g3 g4 g5 : FuncId} (h : Is_spec_StartState P f g1 g2 g3 g4 g5) (c1 : C_spec_l02Series P g1) (c2 : C_spec_l00In P g2) (c3 : C_spec_l02Mean P g3) (c4 : C_spec_l02Less P g4) (c5 : C_spec_l04Give P g5) : C_spec_StartState P f := by
  intro xs per hx
  refine q_spec_StartState h xs per ?_
  have a1 := c1 xs hx
  have b2 := c2 per 1 24
  have bad : (seriesM xs && (inM per 1 24 && decide (per ≤ (xs.length : Int)))) = false → stOk xs per = false := by
    intro h0
    unfold stOk
    revert h0
    cases seriesM xs <;> cases inM per 1 24 <;> cases decide (per ≤ (xs.length : Int)) <;> simp
  cases h0 : seriesM xs <;> rw [h0] at a1
  · rw [bad (by rw [h0]; rfl)]
    repeat' (first | with_reducible refine T.ok_ob ?_ (fun _ => ?_) | with_reducible refine T.ok_ite (fun _ => ?_) (fun _ => ?_) | with_reducible refine T.ok_leaf ?_)
    all_goals (try simp only [decide_eq_true_eq, decide_eq_false_iff_not, Bool.not_eq_true', Bool.not_eq_false', Bool.not_eq_eq_eq_not, Bool.not_true, Bool.not_false, Int.toNat_natCast, tab_len, List.length_append, List.length_singleton, List.length_cons, List.length_nil, List.length_drop, List.length_take, getD_drop', getD_nat, reduceCtorEq] at *)
    all_goals (try simp (disch := omega) only [wrap64_id] at *)
    all_goals first | omega | (exfalso; omega) | exact True.intro | skip
    all_goals first | exact a1 | rfl
  cases h1 : inM per 1 24 <;> rw [h1] at b2
  · rw [bad (by rw [h0, h1]; rfl)]
    repeat' (first | with_reducible refine T.ok_ob ?_ (fun _ => ?_) | with_reducible refine T.ok_ite (fun _ => ?_) (fun _ => ?_) | with_reducible refine T.ok_leaf ?_)
    all_goals (try simp only [decide_eq_true_eq, decide_eq_false_iff_not, Bool.not_eq_true', Bool.not_eq_false', Bool.not_eq_eq_eq_not, Bool.not_true, Bool.not_false, Int.toNat_natCast, tab_len, List.length_append, List.length_singleton, List.length_cons, List.length_nil, List.length_drop, List.length_take, getD_drop', getD_nat, reduceCtorEq] at *)
    all_goals (try simp (disch := omega) only [wrap64_id] at *)
    all_goals first | omega | (exfalso; omega) | exact True.intro | skip
    all_goals first | exact a1 | exact b2 | rfl
  by_cases h2 : per ≤ (xs.length : Int)
  · have hl := series_len h0
    have hi : 1 ≤ per ∧ per ≤ 24 := by simpa [inM] using h1
    have e : stOk xs per = validStateM (stL xs per.toNat) (stS xs per.toNat) (stX xs per.toNat) 0 := by
      unfold stOk; rw [h0, h1, decide_eq_true h2]; rfl
    have hlen : (stX xs per.toNat).length ≤ maxLen := by rw [stX_len _ _ (by omega) (by omega), maxLen_eq]; omega
    rw [e]
    obtain ⟨k, rfl⟩ : ∃ k : Nat, per = k := ⟨per.toNat, by omega⟩
    have e2 : IntKind.wrap .i64 (2 * (k : Int)) = (2 * k : Nat) := by rw [wrap64_id (by omega) (by omega)]; omega
    rw [e2]
    simp only [Int.toNat_natCast, List.drop_zero, show 2 * k - k = k by omega] at hlen ⊢
    have e3 : decide ((xs.length : Int) ≥ ((2 * k : Nat) : Int)) = decide (2 * k ≤ xs.length) := by rw [Bool.eq_iff_iff, decide_eq_true_eq, decide_eq_true_eq]; omega
    have e4 : decide ((k : Int) > 1) = !decide (k = 1) := by
      by_cases hk : k = 1
      · subst hk; rfl
      · rw [decide_eq_false hk, decide_eq_true (by omega)]; rfl
    rw [e3, e4]
    have b1 := c3 (xs.take k) (by simp [maxLen_eq]; omega)
    have b3 := c3 ((xs.drop k).take k) (by simp [maxLen_eq]; omega)
    have b4 := c4 (xs.take k) (meanM (xs.take k)) (by simp; omega)
    have b5 := c5 (stL xs k) (stS xs k) (stX xs k) 0 hlen
    have eL : stL xs k = meanM (xs.take k) := rfl
    cases hd1 : decide (2 * k ≤ xs.length) <;> cases hd2 : decide (k = 1)
    · have eS : stS xs k = 0 := by unfold stS; rw [if_neg (of_decide_eq_false hd1)]
      have eX : stX xs k = lessOneM (xs.take k) (meanM (xs.take k)) := by unfold stX; rw [if_neg (of_decide_eq_false hd2)]; rfl
      rw [eS, eX, eL] at b5 ⊢
      repeat' (first | with_reducible refine T.ok_ob ?_ (fun _ => ?_) | with_reducible refine T.ok_ite (fun _ => ?_) (fun _ => ?_) | with_reducible refine T.ok_leaf ?_)
      all_goals (try simp only [decide_eq_true_eq, decide_eq_false_iff_not, Bool.not_eq_true', Bool.not_eq_false', Bool.not_eq_eq_eq_not, Bool.not_true, Bool.not_false, Int.toNat_natCast, tab_len, List.length_append, List.length_singleton, List.length_cons, List.length_nil, List.length_drop, List.length_take, getD_drop', getD_nat, reduceCtorEq] at *)
      all_goals (try simp (disch := omega) only [wrap64_id] at *)
      all_goals first | omega | (exfalso; omega) | exact True.intro | skip
      all_goals first | exact a1 | exact b1 | exact b2 | exact b3 | exact b4 | exact b5 | (generalize validStateM _ _ _ _ = V; cases V <;> rfl)
    · have eS : stS xs k = 0 := by unfold stS; rw [if_neg (of_decide_eq_false hd1)]
      have eX : stX xs k = [0] := by unfold stX; rw [if_pos (of_decide_eq_true hd2)]
      rw [eS, eX, eL] at b5 ⊢
      repeat' (first | with_reducible refine T.ok_ob ?_ (fun _ => ?_) | with_reducible refine T.ok_ite (fun _ => ?_) (fun _ => ?_) | with_reducible refine T.ok_leaf ?_)
      all_goals (try simp only [decide_eq_true_eq, decide_eq_false_iff_not, Bool.not_eq_true', Bool.not_eq_false', Bool.not_eq_eq_eq_not, Bool.not_true, Bool.not_false, Int.toNat_natCast, tab_len, List.length_append, List.length_singleton, List.length_cons, List.length_nil, List.length_drop, List.length_take, getD_drop', getD_nat, reduceCtorEq] at *)
      all_goals (try simp (disch := omega) only [wrap64_id] at *)
      all_goals first | omega | (exfalso; omega) | exact True.intro | skip
      all_goals first | exact a1 | exact b1 | exact b2 | exact b3 | exact b4 | exact b5 | (generalize validStateM _ _ _ _ = V; cases V <;> rfl)
    · have eS : stS xs k = fdiv .f32 (fsub .f32 (meanM ((xs.drop k).take k)) (meanM (xs.take k))) (fofi .f32 k) := by unfold stS; rw [if_pos (of_decide_eq_true hd1)]; rfl
      have eX : stX xs k = lessOneM (xs.take k) (meanM (xs.take k)) := by unfold stX; rw [if_neg (of_decide_eq_false hd2)]; rfl
      rw [eS, eX, eL] at b5 ⊢
      repeat' (first | with_reducible refine T.ok_ob ?_ (fun _ => ?_) | with_reducible refine T.ok_ite (fun _ => ?_) (fun _ => ?_) | with_reducible refine T.ok_leaf ?_)
      all_goals (try simp only [decide_eq_true_eq, decide_eq_false_iff_not, Bool.not_eq_true', Bool.not_eq_false', Bool.not_eq_eq_eq_not, Bool.not_true, Bool.not_false, Int.toNat_natCast, tab_len, List.length_append, List.length_singleton, List.length_cons, List.length_nil, List.length_drop, List.length_take, getD_drop', getD_nat, reduceCtorEq] at *)
      all_goals (try simp (disch := omega) only [wrap64_id] at *)
      all_goals first | omega | (exfalso; omega) | exact True.intro | skip
      all_goals first | exact a1 | exact b1 | exact b2 | exact b3 | exact b4 | exact b5 | (generalize validStateM _ _ _ _ = V; cases V <;> rfl)
    · have eS : stS xs k = fdiv .f32 (fsub .f32 (meanM ((xs.drop k).take k)) (meanM (xs.take k))) (fofi .f32 k) := by unfold stS; rw [if_pos (of_decide_eq_true hd1)]; rfl
      have eX : stX xs k = [0] := by unfold stX; rw [if_pos (of_decide_eq_true hd2)]
      rw [eS, eX, eL] at b5 ⊢
      repeat' (first | with_reducible refine T.ok_ob ?_ (fun _ => ?_) | with_reducible refine T.ok_ite (fun _ => ?_) (fun _ => ?_) | with_reducible refine T.ok_leaf ?_)
      all_goals (try simp only [decide_eq_true_eq, decide_eq_false_iff_not, Bool.not_eq_true', Bool.not_eq_false', Bool.not_eq_eq_eq_not, Bool.not_true, Bool.not_false, Int.toNat_natCast, tab_len, List.length_append, List.length_singleton, List.length_cons, List.length_nil, List.length_drop, List.length_take, getD_drop', getD_nat, reduceCtorEq] at *)
      all_goals (try simp (disch := omega) only [wrap64_id] at *)
      all_goals first | omega | (exfalso; omega) | exact True.intro | skip
      all_goals first | exact a1 | exact b1 | exact b2 | exact b3 | exact b4 | exact b5 | (generalize validStateM _ _ _ _ = V; cases V <;> rfl)
  · rw [bad (by rw [h0, h1, decide_eq_false h2]; rfl)]
    repeat' (first | with_reducible refine T.ok_ob ?_ (fun _ => ?_) | with_reducible refine T.ok_ite (fun _ => ?_) (fun _ => ?_) | with_reducible refine T.ok_leaf ?_)
    all_goals (try simp only [decide_eq_true_eq, decide_eq_false_iff_not, Bool.not_eq_true', Bool.not_eq_false', Bool.not_eq_eq_eq_not, Bool.not_true, Bool.not_false, Int.toNat_natCast, tab_len, List.length_append, List.length_singleton, List.length_cons, List.length_nil, List.length_drop, List.length_take, getD_drop', getD_nat, reduceCtorEq] at *)
    all_goals (try simp (disch := omega) only [wrap64_id] at *)
    all_goals first | omega | (exfalso; omega) | exact True.intro | skip
    all_goals first | exact a1 | exact b2 | rfl

end Go.Proofs.LV
