/- The source of choices. -/
import Derived.Test.YtjfgmnfkkehgfaaLvFnHX
import Derived.Test.YtjfgmnfkkehgfaaLvExtX
namespace Go.Proofs.LV
open Go
set_option linter.unusedVariables false
set_option linter.unusedSimpArgs false

/-- the source, as it is handed on -/
abbrev SRC (n : Nat) (cs : List Int) (at_ : Int) (seed : Int) : AV := .bx (.own n) [.sl .ro 0 (.i .u8 cs), .i .i64 at_, .i .u64 seed]
-- FN spec_l00From
/-- spec.l00From: slots 6, results [.t 2]; calls []; names [(code, 0), (code, 1)] -/
def ps_spec_l00From : List Nat := [0, 2]
def b_spec_l00From : VCode :=
  (.seq
   (.region false [
    ⟨some 2, .mv, [.k .any], none⟩])
   (.seq
    (.region false [
     ⟨some 3, .mv, [.t 0], none⟩,
     ⟨some 4, (.build [(.sl .nil 0 (.i .u8 [])), (.i .i64 0), (.i .u64 0)] [0]), [.t 3], none⟩,
     ⟨some 5, .boxN, [.t 4], none⟩,
     ⟨some 2, .mv, [.t 5], none⟩])
    .ret))

abbrev Is_spec_l00From (P : Program) (g_f : FuncId) : Prop := FnIs P g_f 6 [.t 2] (b_spec_l00From)

abbrev C_spec_l00From (P : Program) (g_f : FuncId) : Prop := ∀ (cs : List Int), VCall P g_f [PU [0] cs] (.bx (.own 0) [PU [0] cs, .i .i64 0, .i .u64 0])
def oc1_spec_l00From (as : List AV) : T AV := match as with | [.sl _ _ (.i _ cs)] => .leaf (.bx (.own 0) [PU [0] cs, .i .i64 0, .i .u64 0]) | _ => .fail



theorem q_spec_l00From {P : Program} {g_f : FuncId} (h_ : Is_spec_l00From P g_f) (cs : List Int) (ht : T.ok (fun x_ => x_ = .bx (.own 0) [PU [0] cs, .i .i64 0, .i .u64 0]) (
      T.ob (false = false) (T.leaf (AV.bx (Tag.own 0) [AV.sl (Tag.par [0]) 0 (Cont.i IntKind.u8 cs), AV.i IntKind.i64 0, AV.i IntKind.u64 0])))) :
    VCall P g_f [PU [0] cs] (.bx (.own 0) [PU [0] cs, .i .i64 0, .i .u64 0]) := h_.call_of ps_spec_l00From ⟨fun _ _ => .fail, fun _ _ => none⟩ (by kernel_rfl) ht

-- END spec_l00From

def srB (cs : List Int) (a : Int) : Int := if a < cs.length then cs.getD a.toNat 0 else 0
def srS (cs : List Int) (a s : Int) : Int := IntKind.wrap .u64 (IntKind.wrap .u64 (IntKind.wrap .u64 (s * 6364136223846793005) + IntKind.wrap .u64 (srB cs a)) + 1442695040888963407)
def srV (cs : List Int) (a s : Int) : Int := if a < cs.length then cs.getD a.toNat 0 else ibits .and .u64 ((srS cs a s).fdiv (2 ^ 40)) 255
-- FN spec_l00Src__next
/-- spec.l00Src).next: slots 62, results [.t 2]; calls []; names [(s, 0), (s, 1), (b, 3)] -/
def ps_spec_l00Src__next : List Nat := [0, 2, 3, 13, 53]
def b_spec_l00Src__next : VCode :=
  (.seq
   (.region false [
    ⟨some 2, .mv, [.k (.i .i64 0)], none⟩])
   (.seq
    (.region false [
     ⟨some 3, .mv, [.k (.i .i64 0)], none⟩])
    (.seq
     (.seq
      (.region true [
       ⟨some 4, .mv, [.t 0], none⟩,
       ⟨some 5, .nilck, [.t 4], none⟩,
       ⟨some 6, (.faddr 1), [.t 5], none⟩,
       ⟨some 7, .load, [.t 6], none⟩,
       ⟨some 8, .mv, [.t 0], none⟩,
       ⟨some 9, .nilck, [.t 8], none⟩,
       ⟨some 10, (.faddr 0), [.t 9], none⟩,
       ⟨some 11, .load, [.t 10], none⟩,
       ⟨some 12, .len, [.t 11], none⟩,
       ⟨some 13, (.bin .lss), [.t 7, .t 12], none⟩])
      (.cond (.t 13)
       (.region true [
        ⟨some 14, .mv, [.t 0], none⟩,
        ⟨some 15, .nilck, [.t 14], none⟩,
        ⟨some 16, (.faddr 0), [.t 15], none⟩,
        ⟨some 17, .load, [.t 16], none⟩,
        ⟨some 18, .mv, [.t 0], none⟩,
        ⟨some 19, .nilck, [.t 18], none⟩,
        ⟨some 20, (.faddr 1), [.t 19], none⟩,
        ⟨some 21, .load, [.t 20], none⟩,
        ⟨some 22, .iaddr, [.t 17, .t 21], none⟩,
        ⟨some 23, .load, [.t 22], none⟩,
        ⟨some 24, (.convI .i64), [.t 23], none⟩,
        ⟨some 3, .mv, [.t 24], none⟩])
       .skip))
     (.seq
      (.region false [
       ⟨some 25, .mv, [.t 0], none⟩,
       ⟨some 26, .nilck, [.t 25], none⟩,
       ⟨some 27, (.faddr 1), [.t 26], none⟩,
       ⟨some 28, .load, [.t 27], none⟩,
       ⟨some 29, (.bin .add), [.t 28, .k (.i .i64 1)], none⟩,
       ⟨some 30, .nilck, [.t 25], none⟩,
       ⟨some 31, (.faddr 1), [.t 30], none⟩,
       ⟨none, .store, [.t 31, .t 29], none⟩])
      (.seq
       (.region false [
        ⟨some 32, .mv, [.t 0], none⟩,
        ⟨some 33, .mv, [.t 0], none⟩,
        ⟨some 34, .nilck, [.t 33], none⟩,
        ⟨some 35, (.faddr 2), [.t 34], none⟩,
        ⟨some 36, .load, [.t 35], none⟩,
        ⟨some 37, (.bin .mul), [.t 36, .k (.i .u64 6364136223846793005)], none⟩,
        ⟨some 38, .mv, [.t 3], none⟩,
        ⟨some 39, (.convI .u64), [.t 38], none⟩,
        ⟨some 40, (.bin .add), [.t 37, .t 39], none⟩,
        ⟨some 41, (.bin .add), [.t 40, .k (.i .u64 1442695040888963407)], none⟩,
        ⟨some 42, .nilck, [.t 32], none⟩,
        ⟨some 43, (.faddr 2), [.t 42], none⟩,
        ⟨none, .store, [.t 43, .t 41], none⟩])
       (.seq
        (.seq
         (.region true [
          ⟨some 44, .mv, [.t 0], none⟩,
          ⟨some 45, .nilck, [.t 44], none⟩,
          ⟨some 46, (.faddr 1), [.t 45], none⟩,
          ⟨some 47, .load, [.t 46], none⟩,
          ⟨some 48, .mv, [.t 0], none⟩,
          ⟨some 49, .nilck, [.t 48], none⟩,
          ⟨some 50, (.faddr 0), [.t 49], none⟩,
          ⟨some 51, .load, [.t 50], none⟩,
          ⟨some 52, .len, [.t 51], none⟩,
          ⟨some 53, (.bin .leq), [.t 47, .t 52], none⟩])
         (.cond (.t 53)
          (.seq
           (.region false [
            ⟨some 54, .mv, [.t 3], none⟩,
            ⟨some 2, .mv, [.t 54], none⟩])
           .ret)
          .skip))
        (.seq
         (.region false [
          ⟨some 55, .mv, [.t 0], none⟩,
          ⟨some 56, .nilck, [.t 55], none⟩,
          ⟨some 57, (.faddr 2), [.t 56], none⟩,
          ⟨some 58, .load, [.t 57], none⟩,
          ⟨some 59, (.bin .shr), [.t 58, .k (.i .u64 40)], none⟩,
          ⟨some 60, (.bin .and), [.t 59, .k (.i .u64 255)], none⟩,
          ⟨some 61, (.convI .i64), [.t 60], none⟩,
          ⟨some 2, .mv, [.t 61], none⟩])
         .ret)))))))

abbrev Is_spec_l00Src__next (P : Program) (g_f : FuncId) : Prop := FnIs P g_f 62 [.t 2] (b_spec_l00Src__next)

abbrev C_spec_l00Src__next (P : Program) (g_f : FuncId) : Prop := ∀ (cs : List Int) (a : Int) (s : Int) (ha : 0 ≤ a ∧ a ≤ 4294967296) (hc : Byt cs) (hl : cs.length ≤ maxLen), VCall P g_f [SRC HI cs a s] ((AV.M (.i .i64 (srV cs a s)) [SRC HI cs (a + 1) (srS cs a s)]))
def oc1_spec_l00Src__next (as : List AV) : T AV := match as with | [.bx _ [.sl _ _ (.i _ cs), .i _ a, .i _ s]] => .leaf ((AV.M (.i .i64 (srV cs a s)) [SRC HI cs (a + 1) (srS cs a s)])) | _ => .fail



theorem q_spec_l00Src__next {P : Program} {g_f : FuncId} (h_ : Is_spec_l00Src__next P g_f) (cs : List Int) (a : Int) (s : Int) (ht : T.ok (fun x_ => x_ = (.i .i64 (srV cs a s), [SRC HI cs (a + 1) (srS cs a s)])) (
      T.ite (decide (a < (↑(List.length cs) : Int)))
        (T.ob (0 ≤ a ∧ a < (↑(List.length cs) : Int))
          (T.ob True
            (T.ob (false = false)
              (T.ob True
                (T.ob (false = false)
                  (T.ite (decide (IntKind.wrap IntKind.i64 (a + 1) ≤ (↑(List.length cs) : Int)))
                    (T.ob True
                      (T.leaf
                        (AV.i IntKind.i64 (IntKind.wrap IntKind.i64 (List.getD cs (Int.toNat a) 0)),
                          [AV.bx (Tag.own 800000)
                              [AV.sl Tag.ro 0 (Cont.i IntKind.u8 cs), AV.i IntKind.i64 (IntKind.wrap IntKind.i64 (a + 1)),
                                AV.i IntKind.u64
                                  (IntKind.wrap IntKind.u64
                                    (IntKind.wrap IntKind.u64 (IntKind.wrap IntKind.u64 (s * 6364136223846793005) + IntKind.wrap IntKind.u64 (IntKind.wrap IntKind.i64 (List.getD cs (Int.toNat a) 0))) +
                                      1442695040888963407))]])))
                    (T.ob ((0 : Int) ≤ 40 ∧ 40 ≤ 64)
                      (T.ob True
                        (T.ob True
                          (T.leaf
                            (AV.i IntKind.i64
                                (IntKind.wrap IntKind.i64
                                  (ibits BinOp.and IntKind.u64
                                    (Int.fdiv
                                      (IntKind.wrap IntKind.u64
                                        (IntKind.wrap IntKind.u64 (IntKind.wrap IntKind.u64 (s * 6364136223846793005) + IntKind.wrap IntKind.u64 (IntKind.wrap IntKind.i64 (List.getD cs (Int.toNat a) 0))) +
                                          1442695040888963407))
                                      1099511627776)
                                    255)),
                              [AV.bx (Tag.own 800000)
                                  [AV.sl Tag.ro 0 (Cont.i IntKind.u8 cs), AV.i IntKind.i64 (IntKind.wrap IntKind.i64 (a + 1)),
                                    AV.i IntKind.u64
                                      (IntKind.wrap IntKind.u64
                                        (IntKind.wrap IntKind.u64 (IntKind.wrap IntKind.u64 (s * 6364136223846793005) + IntKind.wrap IntKind.u64 (IntKind.wrap IntKind.i64 (List.getD cs (Int.toNat a) 0))) +
                                          1442695040888963407))]])))))))))))
        (T.ob (false = false)
          (T.ob True
            (T.ob (false = false)
              (T.ite (decide (IntKind.wrap IntKind.i64 (a + 1) ≤ (↑(List.length cs) : Int)))
                (T.ob True
                  (T.leaf
                    (AV.i IntKind.i64 0,
                      [AV.bx (Tag.own 800000)
                          [AV.sl Tag.ro 0 (Cont.i IntKind.u8 cs), AV.i IntKind.i64 (IntKind.wrap IntKind.i64 (a + 1)),
                            AV.i IntKind.u64 (IntKind.wrap IntKind.u64 (IntKind.wrap IntKind.u64 (IntKind.wrap IntKind.u64 (s * 6364136223846793005) + 0) + 1442695040888963407))]])))
                (T.ob ((0 : Int) ≤ 40 ∧ 40 ≤ 64)
                  (T.ob True
                    (T.ob True
                      (T.leaf
                        (AV.i IntKind.i64
                            (IntKind.wrap IntKind.i64
                              (ibits BinOp.and IntKind.u64 (Int.fdiv (IntKind.wrap IntKind.u64 (IntKind.wrap IntKind.u64 (IntKind.wrap IntKind.u64 (s * 6364136223846793005) + 0) + 1442695040888963407)) 1099511627776) 255)),
                          [AV.bx (Tag.own 800000)
                              [AV.sl Tag.ro 0 (Cont.i IntKind.u8 cs), AV.i IntKind.i64 (IntKind.wrap IntKind.i64 (a + 1)),
                                AV.i IntKind.u64 (IntKind.wrap IntKind.u64 (IntKind.wrap IntKind.u64 (IntKind.wrap IntKind.u64 (s * 6364136223846793005) + 0) + 1442695040888963407))]]))))))))))) :
    VCall P g_f [SRC HI cs a s] (AV.M (.i .i64 (srV cs a s)) [SRC HI cs (a + 1) (srS cs a s)]) := h_.callM_of ps_spec_l00Src__next [0] ⟨fun _ _ => .fail, fun _ _ => none⟩ (by kernel_rfl) ht

-- END spec_l00Src__next

/-- what is picked, and the state behind it -/
def pkV (cs : List Int) (a s n : Int) : Int := if n ≤ 1 then 0 else if n ≤ 200 then (srV cs a s).tmod n else (srV cs a s * 256 + srV cs (a + 1) (srS cs a s)).tmod n
def pkA (a n : Int) : Int := if n ≤ 1 then a else if n ≤ 200 then a + 1 else a + 2
def pkS (cs : List Int) (a s n : Int) : Int := if n ≤ 1 then s else if n ≤ 200 then srS cs a s else srS cs (a + 1) (srS cs a s)
-- FN spec_l00Src__pick
/-- spec.l00Src).pick: slots 20, results [.t 4]; calls [9:g_spec_l00Src__next, 15:g_spec_l00Src__next]; names [(s, 0), (n, 1), (s, 2), (n, 3), (x, 5)] -/
def ps_spec_l00Src__pick : List Nat := [0, 1, 4, 5, 7, 11]
def b_spec_l00Src__pick (g_spec_l00Src__next : FuncId) : VCode :=
  (.seq
   (.region false [
    ⟨some 4, .mv, [.k (.i .i64 0)], none⟩])
   (.seq
    (.seq
     (.region false [
      ⟨some 6, .mv, [.t 1], none⟩,
      ⟨some 7, (.bin .leq), [.t 6, .k (.i .i64 1)], none⟩])
     (.cond (.t 7)
      (.seq
       (.region false [
        ⟨some 4, .mv, [.k (.i .i64 0)], none⟩])
       .ret)
      .skip))
    (.seq
     (.region false [
      ⟨some 8, .mv, [.t 0], none⟩,
      ⟨some 9, (.call g_spec_l00Src__next), [.t 8], none⟩,
      ⟨some 5, .mv, [.t 9], none⟩])
     (.seq
      (.seq
       (.region false [
        ⟨some 10, .mv, [.t 1], none⟩,
        ⟨some 11, (.bin .gtr), [.t 10, .k (.i .i64 200)], none⟩])
       (.cond (.t 11)
        (.region false [
         ⟨some 12, .mv, [.t 5], none⟩,
         ⟨some 13, (.bin .mul), [.t 12, .k (.i .i64 256)], none⟩,
         ⟨some 14, .mv, [.t 0], none⟩,
         ⟨some 15, (.call g_spec_l00Src__next), [.t 14], none⟩,
         ⟨some 16, (.bin .add), [.t 13, .t 15], none⟩,
         ⟨some 5, .mv, [.t 16], none⟩])
        .skip))
      (.seq
       (.region false [
        ⟨some 17, .mv, [.t 5], none⟩,
        ⟨some 18, .mv, [.t 1], none⟩,
        ⟨some 19, (.bin .rem), [.t 17, .t 18], none⟩,
        ⟨some 4, .mv, [.t 19], none⟩])
       .ret)))))

abbrev Is_spec_l00Src__pick (P : Program) (g_f : FuncId) (g_spec_l00Src__next : FuncId) : Prop := FnIs P g_f 20 [.t 4] (b_spec_l00Src__pick g_spec_l00Src__next)

abbrev C_spec_l00Src__pick (P : Program) (g_f : FuncId) : Prop := ∀ (cs : List Int) (a : Int) (s : Int) (n : Int) (ha : 0 ≤ a ∧ a ≤ 4294967295) (hc : Byt cs) (hl : cs.length ≤ maxLen), VCall P g_f [SRC HI cs a s, .i .i64 n] ((AV.M (.i .i64 (pkV cs a s n)) [SRC HI cs (pkA a n) (pkS cs a s n), .i .i64 n]))
def oc1_spec_l00Src__pick (as : List AV) : T AV := match as with | [.bx _ [.sl _ _ (.i _ cs), .i _ a, .i _ s], .i .i64 n] => .leaf ((AV.M (.i .i64 (pkV cs a s n)) [SRC HI cs (pkA a n) (pkS cs a s n), .i .i64 n])) | _ => .fail
def oc_spec_l00Src__pick (cs : List Int) (a : Int) (s : Int) (n : Int) (d : Nat) (as : List AV) : T AV := match d with | 9 => oc1_spec_l00Src__next as | 15 => oc1_spec_l00Src__next as | _ => .fail



theorem q_spec_l00Src__pick {P : Program} {g_f : FuncId} {g_spec_l00Src__next : FuncId} (h_ : Is_spec_l00Src__pick P g_f g_spec_l00Src__next) (cs : List Int) (a : Int) (s : Int) (n : Int) (ht : T.ok (fun x_ => x_ = (.i .i64 (pkV cs a s n), [SRC HI cs (pkA a n) (pkS cs a s n), .i .i64 n])) (
      T.ite (decide (n ≤ 1)) (T.ob True (T.leaf (AV.i IntKind.i64 0, [AV.bx (Tag.own 800000) [AV.sl Tag.ro 0 (Cont.i IntKind.u8 cs), AV.i IntKind.i64 a, AV.i IntKind.u64 s], AV.i IntKind.i64 n])))
        (T.ob
          ((VCall P) g_spec_l00Src__next [AV.bx (Tag.own 800000) [AV.sl Tag.ro 0 (Cont.i IntKind.u8 cs), AV.i IntKind.i64 a, AV.i IntKind.u64 s]]
              (AV.bx Tag.nil [AV.i IntKind.i64 (srV cs a s), AV.tup [AV.bx (Tag.own 800000) [AV.sl Tag.ro 0 (Cont.i IntKind.u8 cs), AV.i IntKind.i64 (a + 1), AV.i IntKind.u64 (srS cs a s)]]]) ∧
            True)
          (T.ite (decide (n > 200))
            (T.ob
              ((VCall P) g_spec_l00Src__next [AV.bx (Tag.own 800000) [AV.sl Tag.ro 0 (Cont.i IntKind.u8 cs), AV.i IntKind.i64 (a + 1), AV.i IntKind.u64 (srS cs a s)]]
                  (AV.bx Tag.nil
                    [AV.i IntKind.i64 (srV cs (a + 1) (srS cs a s)), AV.tup [AV.bx (Tag.own 800000) [AV.sl Tag.ro 0 (Cont.i IntKind.u8 cs), AV.i IntKind.i64 (a + 1 + 1), AV.i IntKind.u64 (srS cs (a + 1) (srS cs a s))]]]) ∧
                True)
              (T.ob (n ≠ 0)
                (T.ob True
                  (T.leaf
                    (AV.i IntKind.i64 (Int.tmod (IntKind.wrap IntKind.i64 (IntKind.wrap IntKind.i64 (srV cs a s * 256) + srV cs (a + 1) (srS cs a s))) n),
                      [AV.bx (Tag.own 800000) [AV.sl Tag.ro 0 (Cont.i IntKind.u8 cs), AV.i IntKind.i64 (a + 1 + 1), AV.i IntKind.u64 (srS cs (a + 1) (srS cs a s))], AV.i IntKind.i64 n])))))
            (T.ob (n ≠ 0)
              (T.ob True (T.leaf (AV.i IntKind.i64 (Int.tmod (srV cs a s) n), [AV.bx (Tag.own 800000) [AV.sl Tag.ro 0 (Cont.i IntKind.u8 cs), AV.i IntKind.i64 (a + 1), AV.i IntKind.u64 (srS cs a s)], AV.i IntKind.i64 n])))))))) :
    VCall P g_f [SRC HI cs a s, .i .i64 n] (AV.M (.i .i64 (pkV cs a s n)) [SRC HI cs (pkA a n) (pkS cs a s n), .i .i64 n]) := h_.callM_of ps_spec_l00Src__pick [0] ⟨oc_spec_l00Src__pick cs a s n, fun _ _ => none⟩ (by kernel_rfl) ht

-- END spec_l00Src__pick

/-- the seed behind j steps, and step j's byte -/
def sdN (cs : List Int) (a s : Int) : Nat → Int
  | 0 => s
  | j + 1 => srS cs (a + j) (sdN cs a s j)
def vlN (cs : List Int) (a s : Int) (j : Nat) : Int := srV cs (a + j) (sdN cs a s j)
theorem k_spec_l00From {P : Program} {f : FuncId} (h : Is_spec_l00From P f) : C_spec_l00From P f := by
  intro cs
  refine q_spec_l00From h cs ?_
  repeat' (first | with_reducible refine T.ok_ob ?_ (fun _ => ?_) | with_reducible refine T.ok_ite (fun _ => ?_) (fun _ => ?_) | with_reducible refine T.ok_leaf ?_)
  all_goals first | with_reducible rfl | with_reducible assumption | contradiction | exact fconvOk_32_64 _ | assumption | exact rfl | (simp_all []; done) | (simp_all [T.ok]; omega)

theorem and_255 (x : Int) : 0 ≤ ibits .and .u64 x 255 ∧ ibits .and .u64 x 255 ≤ 255 := by
  have h1 : ((BitVec.ofInt 64 x &&& BitVec.ofInt 64 255).toNat) ≤ 255 := by
    rw [BitVec.toNat_and]
    exact Nat.le_trans Nat.and_le_right (by decide)
  have e : ibits .and .u64 x 255 = ((BitVec.ofInt 64 x &&& BitVec.ofInt 64 255).toNat : Int) := by
    unfold ibits
    simp only
    have : ∀ m : Nat, m ≤ 255 → IntKind.wrap .u64 (m : Int) = m := by
      intro m hm
      unfold IntKind.wrap
      simp [IntKind.bits]
      omega
    exact this _ h1
  rw [e]; omega
theorem srV_le {cs : List Int} (hc : Byt cs) (a s : Int) : 0 ≤ srV cs a s ∧ srV cs a s ≤ 255 := by
  unfold srV
  split
  · exact hc _
  · exact and_255 _
theorem k_spec_l00Src__next {P : Program} {f : FuncId} (h : Is_spec_l00Src__next P f) : C_spec_l00Src__next P f := by
  intro cs a s ha hc hl
  have hb := hc a.toNat
  have hm : cs.length ≤ 9223372036854775807 := hl
  have hw : IntKind.wrap .i64 (a + 1) = a + 1 := wrap64_id (by omega) (by omega)
  have e1 : IntKind.wrap .i64 (cs.getD a.toNat 0) = cs.getD a.toNat 0 := wrap64_id (by omega) (by omega)
  have e2 : (2 : Int) ^ 40 = 1099511627776 := by decide
  refine q_spec_l00Src__next h cs a s ?_
  rw [hw, e1]
  rcases Int.lt_or_le a cs.length with hlt | hge
  · have e3 : srB cs a = cs.getD a.toNat 0 := if_pos hlt
    have e4 : srV cs a s = cs.getD a.toNat 0 := if_pos hlt
    unfold srS
    rw [e3, e4]
    repeat' (first | with_reducible refine T.ok_ob ?_ (fun _ => ?_) | with_reducible refine T.ok_ite (fun _ => ?_) (fun _ => ?_) | with_reducible refine T.ok_leaf ?_)
    all_goals (try simp only [decide_eq_true_eq, decide_eq_false_iff_not, Bool.not_eq_true', Bool.not_eq_false', Bool.not_eq_eq_eq_not, Bool.not_true, Bool.not_false, Int.toNat_natCast, tab_len, List.length_append, List.length_singleton, List.length_cons, List.length_nil, List.length_drop, List.length_take, getD_drop', getD_nat, reduceCtorEq] at *)
    all_goals (try simp (disch := omega) only [wrap64_id] at *)
    all_goals first | omega | (exfalso; omega) | exact True.intro | skip
    all_goals first | rfl | omega
  · have e3 : srB cs a = 0 := if_neg (by omega)
    have e4 : srV cs a s = ibits .and .u64 ((srS cs a s).fdiv 1099511627776) 255 := by rw [← e2]; exact if_neg (by omega)
    have e5 : IntKind.wrap .u64 0 = 0 := rfl
    have hb := and_255 ((srS cs a s).fdiv 1099511627776)
    have e6 : IntKind.wrap .i64 (ibits .and .u64 ((srS cs a s).fdiv 1099511627776) 255) = ibits .and .u64 ((srS cs a s).fdiv 1099511627776) 255 := wrap64_id (by omega) (by omega)
    have e7 : srS cs a s = IntKind.wrap .u64 (IntKind.wrap .u64 (IntKind.wrap .u64 (s * 6364136223846793005) + 0) + 1442695040888963407) := by unfold srS; rw [e3, e5]
    rw [← e7, e4, e6]
    repeat' (first | with_reducible refine T.ok_ob ?_ (fun _ => ?_) | with_reducible refine T.ok_ite (fun _ => ?_) (fun _ => ?_) | with_reducible refine T.ok_leaf ?_)
    all_goals (try simp only [decide_eq_true_eq, decide_eq_false_iff_not, Bool.not_eq_true', Bool.not_eq_false', Bool.not_eq_eq_eq_not, Bool.not_true, Bool.not_false, Int.toNat_natCast, tab_len, List.length_append, List.length_singleton, List.length_cons, List.length_nil, List.length_drop, List.length_take, getD_drop', getD_nat, reduceCtorEq] at *)
    all_goals (try simp (disch := omega) only [wrap64_id] at *)
    all_goals first | omega | (exfalso; omega) | exact True.intro | skip
    all_goals first | rfl | omega
theorem k_spec_l00Src__pick {P : Program} {f g : FuncId} (h : Is_spec_l00Src__pick P f g) (c1 : C_spec_l00Src__next P g) : C_spec_l00Src__pick P f := by
  intro cs a s n ha hc hl
  have h1 := srV_le hc a s
  have h2 := srV_le hc (a + 1) (srS cs a s)
  have a1 := c1 cs a s (by omega) hc hl
  have a2 := c1 cs (a + 1) (srS cs a s) (by omega) hc hl
  have e1 : IntKind.wrap .i64 (srV cs a s * 256) = srV cs a s * 256 := wrap64_id (by omega) (by omega)
  have e2 : IntKind.wrap .i64 (srV cs a s * 256 + srV cs (a + 1) (srS cs a s)) = srV cs a s * 256 + srV cs (a + 1) (srS cs a s) := wrap64_id (by omega) (by omega)
  refine q_spec_l00Src__pick h cs a s n ?_
  rw [e1, e2]
  unfold pkV pkA pkS
  refine ⟨fun c => ?_, fun c => ⟨⟨a1, trivial⟩, fun _ => ⟨fun d => ⟨⟨a2, trivial⟩, fun _ => ⟨?_, fun _ => ⟨trivial, fun _ => ?_⟩⟩⟩, fun d => ⟨?_, fun _ => ⟨trivial, fun _ => ?_⟩⟩⟩⟩⟩
  · have c := of_decide_eq_true c
    refine ⟨trivial, fun _ => ?_⟩
    show _ = _
    simp only [c, if_true]
  · have c := of_decide_eq_false c; omega
  · have c := of_decide_eq_false c
    have d := of_decide_eq_true d
    have d' : ¬ n ≤ 200 := by omega
    show _ = _
    simp only [c, d', if_false]
    rw [show a + 2 = a + 1 + 1 by omega]
  · have c := of_decide_eq_false c; omega
  · have c := of_decide_eq_false c
    have d := of_decide_eq_false d
    have d' : n ≤ 200 := by omega
    show _ = _
    simp only [c, d', if_false, if_true]
theorem pk_one {cs : List Int} {a s n : Int} (h : 1 < n ∧ n ≤ 200) : pkV cs a s n = (srV cs a s).tmod n ∧ pkA a n = a + 1 ∧ pkS cs a s n = srS cs a s := by
  have h1 : ¬ n ≤ 1 := by omega
  simp [pkV, pkA, pkS, h1, h.2]
theorem tmod_byte {x n : Int} (hx : 0 ≤ x) (hn : 0 < n) : 0 ≤ x.tmod n ∧ x.tmod n < n := by
  rw [Int.tmod_eq_emod_of_nonneg hx]
  exact ⟨Int.emod_nonneg _ (by omega), Int.emod_lt_of_pos _ hn⟩
end Go.Proofs.LV
