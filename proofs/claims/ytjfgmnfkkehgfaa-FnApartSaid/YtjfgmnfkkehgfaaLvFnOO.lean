/- Drawn series of the laws: a level, a slope, a season. -/
import Derived.Test.YtjfgmnfkkehgfaaLvFnFF
namespace Go.Proofs.LV
open Go
set_option linter.unusedVariables false
set_option linter.unusedSimpArgs false

def s2V (cs : List Int) (a s : Int) : Int := (vlN cs a s 0).tmod 41 - 20
def s2W (cs : List Int) (a s : Int) : Int := (vlN cs a s 1).tmod 5 - 2
def s2P (cs : List Int) (a s : Int) : Nat := 1 + ((vlN cs a s 2).tmod 5).toNat
def s2E (cs : List Int) (a s : Int) (p : Nat) : List Int := tab p fun k => (vlN cs a s (3 + k)).tmod 9 - 4
def s2X (cs : List Int) (a s : Int) (i : Nat) : Int := s2V cs a s + (s2W cs a s * i).tdiv 2 + (s2E cs a s (s2P cs a s)).getD (i % s2P cs a s) 0 + (vlN cs a s (3 + s2P cs a s + i)).tmod 5 - 2
def s2F (x : Int) : Nat := fdiv .f32 (fofi .f32 x) 1073741824
def s2L (cs : List Int) (a s : Int) (n : Nat) : List Nat := tab n fun i => s2F (s2X cs a s i)

-- FN spec_l02DrawOk
/-- spec.l02DrawOk: slots 64, results [.t 4]; calls [14:g_spec_l00Src__pick, 17:g_spec_l00Src__pick, 20:g_spec_l00Src__pick, 30:g_spec_l00Src__pick, 54:g_spec_l00Src__pick]; names [(s, 0), (n, 1), (s, 2), (n, 3), (level, 5), (slope, 6), (period, 7), (season, 8), (k, 9), (out, 10), (i, 11), (x, 12)] -/
def ps_spec_l02DrawOk : List Nat := [0, 1, 4, 5, 6, 7, 8, 9, 10, 11, 12, 25, 37]
def lv_spec_l02DrawOk_L0 : List Nat := [0, 1, 5, 6, 7, 8, 9]
def lv_spec_l02DrawOk_L2 : List Nat := [0, 1, 5, 6, 7, 8, 10, 11]
def b_spec_l02DrawOk_L0 (g_spec_l00Src__pick : FuncId) : VCode :=
  (.seq
   (.seq
    (.region false [
     ⟨some 23, .mv, [.t 9], none⟩,
     ⟨some 24, .mv, [.t 7], none⟩,
     ⟨some 25, (.bin .lss), [.t 23, .t 24], none⟩])
    (.cond (.t 25)
     .skip
     (.exit 0)))
   (.seq
    (.block 1
     (.region false [
      ⟨some 28, .mv, [.t 8], none⟩,
      ⟨some 29, .mv, [.t 0], none⟩,
      ⟨some 30, (.call g_spec_l00Src__pick), [.t 29, .k (.i .i64 9)], none⟩,
      ⟨some 31, (.bin .sub), [.t 30, .k (.i .i64 4)], none⟩,
      ⟨some 32, (.lit true (.i .i64 [])), [.t 31], none⟩,
      ⟨some 33, .app, [.t 28, .t 32], none⟩,
      ⟨some 8, .mv, [.t 33], none⟩]))
    (.region false [
     ⟨some 26, .mv, [.t 9], none⟩,
     ⟨some 27, (.bin .add), [.t 26, .k (.i .i64 1)], none⟩,
     ⟨some 9, .mv, [.t 27], none⟩])))

def b_spec_l02DrawOk_L2 (g_spec_l00Src__pick : FuncId) : VCode :=
  (.seq
   (.seq
    (.region false [
     ⟨some 35, .mv, [.t 11], none⟩,
     ⟨some 36, .mv, [.t 1], none⟩,
     ⟨some 37, (.bin .lss), [.t 35, .t 36], none⟩])
    (.cond (.t 37)
     .skip
     (.exit 2)))
   (.seq
    (.block 3
     (.seq
      (.region true [
       ⟨some 40, .mv, [.t 5], none⟩,
       ⟨some 41, .mv, [.t 6], none⟩,
       ⟨some 42, .mv, [.t 11], none⟩,
       ⟨some 43, (.bin .mul), [.t 41, .t 42], none⟩,
       ⟨some 44, (.bin .quo), [.t 43, .k (.i .i64 2)], none⟩,
       ⟨some 45, (.bin .add), [.t 40, .t 44], none⟩,
       ⟨some 46, .mv, [.t 8], none⟩,
       ⟨some 47, .mv, [.t 11], none⟩,
       ⟨some 48, .mv, [.t 7], none⟩,
       ⟨some 49, (.bin .rem), [.t 47, .t 48], none⟩,
       ⟨some 50, .iaddr, [.t 46, .t 49], none⟩,
       ⟨some 51, .load, [.t 50], none⟩,
       ⟨some 52, (.bin .add), [.t 45, .t 51], none⟩,
       ⟨some 53, .mv, [.t 0], none⟩,
       ⟨some 54, (.call g_spec_l00Src__pick), [.t 53, .k (.i .i64 5)], none⟩,
       ⟨some 55, (.bin .add), [.t 52, .t 54], none⟩,
       ⟨some 56, (.bin .sub), [.t 55, .k (.i .i64 2)], none⟩,
       ⟨some 12, .mv, [.t 56], none⟩])
      (.region false [
       ⟨some 57, .mv, [.t 10], none⟩,
       ⟨some 58, .mv, [.t 12], none⟩,
       ⟨some 59, (.convF .f32), [.t 58], none⟩,
       ⟨some 60, (.bin .quo), [.t 59, .k (.f .f32 1073741824)], none⟩,
       ⟨some 61, (.lit true (.f .f32 [])), [.t 60], none⟩,
       ⟨some 62, .app, [.t 57, .t 61], none⟩,
       ⟨some 10, .mv, [.t 62], none⟩])))
    (.region false [
     ⟨some 38, .mv, [.t 11], none⟩,
     ⟨some 39, (.bin .add), [.t 38, .k (.i .i64 1)], none⟩,
     ⟨some 11, .mv, [.t 39], none⟩])))

def b_spec_l02DrawOk (g_spec_l00Src__pick : FuncId) : VCode :=
  (.seq
   (.region false [
    ⟨some 4, (.nilsl (.f .f32 [])), [], none⟩])
   (.seq
    (.region false [
     ⟨some 13, .mv, [.t 0], none⟩,
     ⟨some 14, (.call g_spec_l00Src__pick), [.t 13, .k (.i .i64 41)], none⟩,
     ⟨some 15, (.bin .sub), [.t 14, .k (.i .i64 20)], none⟩,
     ⟨some 5, .mv, [.t 15], none⟩])
    (.seq
     (.region false [
      ⟨some 16, .mv, [.t 0], none⟩,
      ⟨some 17, (.call g_spec_l00Src__pick), [.t 16, .k (.i .i64 5)], none⟩,
      ⟨some 18, (.bin .sub), [.t 17, .k (.i .i64 2)], none⟩,
      ⟨some 6, .mv, [.t 18], none⟩])
     (.seq
      (.region false [
       ⟨some 19, .mv, [.t 0], none⟩,
       ⟨some 20, (.call g_spec_l00Src__pick), [.t 19, .k (.i .i64 5)], none⟩,
       ⟨some 21, (.bin .add), [.k (.i .i64 1), .t 20], none⟩,
       ⟨some 7, .mv, [.t 21], none⟩])
      (.seq
       (.region false [
        ⟨some 22, (.lit true (.i .i64 [])), [], none⟩,
        ⟨some 8, .mv, [.t 22], none⟩])
       (.seq
        (.seq
         (.region false [
          ⟨some 9, .mv, [.k (.i .i64 0)], none⟩])
         (.block 0 (.loop (b_spec_l02DrawOk_L0 g_spec_l00Src__pick))))
        (.seq
         (.region false [
          ⟨some 34, (.lit true (.f .f32 [])), [], none⟩,
          ⟨some 10, .mv, [.t 34], none⟩])
         (.seq
          (.seq
           (.region false [
            ⟨some 11, .mv, [.k (.i .i64 0)], none⟩])
           (.block 2 (.loop (b_spec_l02DrawOk_L2 g_spec_l00Src__pick))))
          (.seq
           (.region false [
            ⟨some 63, .mv, [.t 10], none⟩,
            ⟨some 4, .mv, [.t 63], none⟩])
           .ret)))))))))

abbrev Is_spec_l02DrawOk (P : Program) (g_f : FuncId) (g_spec_l00Src__pick : FuncId) : Prop := FnIs P g_f 64 [.t 4] (b_spec_l02DrawOk g_spec_l00Src__pick)

abbrev C_spec_l02DrawOk (P : Program) (g_f : FuncId) : Prop := ∀ (cs : List Int) (a : Int) (s : Int) (n : Int) (ha : 0 ≤ a ∧ a ≤ 100) (hn : 0 ≤ n ∧ n ≤ 1000) (hc : Byt cs) (hl : cs.length ≤ maxLen), VCall P g_f [SRC HI cs a s, .i .i64 n] ((AV.M (OS 0 .f32 (s2L cs a s n.toNat)) [SRC HI cs (a + 3 + s2P cs a s + n) (sdN cs a s (3 + s2P cs a s + n.toNat)), .i .i64 n]))
def oc1_spec_l02DrawOk (as : List AV) : T AV := match as with | [.bx _ [.sl _ _ (.i _ cs), .i _ a, .i _ s], .i .i64 n] => .leaf ((AV.M (OS 0 .f32 (s2L cs a s n.toNat)) [SRC HI cs (a + 3 + s2P cs a s + n) (sdN cs a s (3 + s2P cs a s + n.toNat)), .i .i64 n])) | _ => .fail
def oc_spec_l02DrawOk (cs : List Int) (a : Int) (s : Int) (n : Int) (d : Nat) (as : List AV) : T AV := match d with | 14 => oc1_spec_l00Src__pick as | 17 => oc1_spec_l00Src__pick as | 20 => oc1_spec_l00Src__pick as | 30 => oc1_spec_l00Src__pick as | 54 => oc1_spec_l00Src__pick as | _ => .fail
def h_spec_l02DrawOk_L0 (cs : List Int) (a : Int) (s : Int) (n : Int) (s0 : List Int) (s1 : Int) (s2 : Int) (season : List Int) (k : Int) : Env := [.bx (Tag.own 800000) [.sl Tag.ro 0 (.i IntKind.u8 s0), .i IntKind.i64 s1, .i IntKind.u64 s2], AV.i IntKind.i64 n, .any, .any, .any, AV.i IntKind.i64 (IntKind.wrap IntKind.i64 (pkV cs a s 41 - 20)), AV.i IntKind.i64 (IntKind.wrap IntKind.i64 (pkV cs (pkA a 41) (pkS cs a s 41) 5 - 2)), AV.i IntKind.i64 (IntKind.wrap IntKind.i64 (1 + pkV cs (pkA (pkA a 41) 5) (pkS cs (pkA a 41) (pkS cs a s 41) 5) 5)), .sl (Tag.own 176) 0 (.i IntKind.i64 season), .i IntKind.i64 k] ++ anys 54
def h_spec_l02DrawOk_L2 (cs : List Int) (a : Int) (s : Int) (n : Int) (s0 : List Int) (s1 : Int) (s2 : Int) (season : List Int) (out : List Nat) (i : Int) : Env := [.bx (Tag.own 800000) [.sl Tag.ro 0 (.i IntKind.u8 s0), .i IntKind.i64 s1, .i IntKind.u64 s2], AV.i IntKind.i64 n, .any, .any, .any, AV.i IntKind.i64 (IntKind.wrap IntKind.i64 (pkV cs a s 41 - 20)), AV.i IntKind.i64 (IntKind.wrap IntKind.i64 (pkV cs (pkA a 41) (pkS cs a s 41) 5 - 2)), AV.i IntKind.i64 (IntKind.wrap IntKind.i64 (1 + pkV cs (pkA (pkA a 41) 5) (pkS cs (pkA a 41) (pkS cs a s 41) 5) 5)), .sl (Tag.own 176) 0 (.i IntKind.i64 season), .any, .sl (Tag.own 272) 0 (.f FloatKind.f32 out), .i IntKind.i64 i] ++ anys 52

theorem q_spec_l02DrawOk_L0 {VC : FuncId → List AV → AV → Prop} {g_spec_l00Src__pick : FuncId} (cs : List Int) (a : Int) (s : Int) (n : Int) (s0 : List Int) (s1 : Int) (s2 : Int) (season : List Int) (k : Int) {e_ : Ex} {σ_ : Env} (ht : T.ok (fun x_ => x_ = (e_, σ_)) (
      T.ite (decide (k < IntKind.wrap IntKind.i64 (1 + pkV cs (pkA (pkA a 41) 5) (pkS cs (pkA a 41) (pkS cs a s 41) 5) 5)))
        (T.ob
          (VC g_spec_l00Src__pick [AV.bx (Tag.own 800000) [AV.sl Tag.ro 0 (Cont.i IntKind.u8 s0), AV.i IntKind.i64 s1, AV.i IntKind.u64 s2], AV.i IntKind.i64 9]
              (AV.bx Tag.nil [AV.i IntKind.i64 (pkV s0 s1 s2 9), AV.tup [AV.bx (Tag.own 800000) [AV.sl Tag.ro 0 (Cont.i IntKind.u8 s0), AV.i IntKind.i64 (pkA s1 9), AV.i IntKind.u64 (pkS s0 s1 s2 9)], AV.i IntKind.i64 9]]) ∧
            True)
          (T.ob (List.length season + List.length [IntKind.wrap IntKind.i64 (pkV s0 s1 s2 9 - 4)] ≤ 4294967296)
            (T.leaf (Ex.normal, h_spec_l02DrawOk_L0 cs a s n s0 (pkA s1 9) (pkS s0 s1 s2 9) (season ++ [IntKind.wrap IntKind.i64 (pkV s0 s1 s2 9 - 4)]) (IntKind.wrap IntKind.i64 (k + 1))))))
        (T.leaf (Ex.exit 0, h_spec_l02DrawOk_L0 cs a s n s0 s1 s2 season k)))) :
    Exec VC ps_spec_l02DrawOk (b_spec_l02DrawOk_L0 g_spec_l00Src__pick) (h_spec_l02DrawOk_L0 cs a s n s0 s1 s2 season k) e_ σ_ := evL_of (lv := lv_spec_l02DrawOk_L0) (rs := [0, 4]) (O := ⟨oc_spec_l02DrawOk cs a s n, fun _ _ => none⟩) (by kernel_rfl) ht

theorem q_spec_l02DrawOk_L2 {VC : FuncId → List AV → AV → Prop} {g_spec_l00Src__pick : FuncId} (cs : List Int) (a : Int) (s : Int) (n : Int) (s0 : List Int) (s1 : Int) (s2 : Int) (season : List Int) (out : List Nat) (i : Int) {e_ : Ex} {σ_ : Env} (ht : T.ok (fun x_ => x_ = (e_, σ_)) (
      T.ite (decide (i < n))
        (T.ob ((2 : Int) ≠ 0)
          (T.ob (IntKind.wrap IntKind.i64 (1 + pkV cs (pkA (pkA a 41) 5) (pkS cs (pkA a 41) (pkS cs a s 41) 5) 5) ≠ 0)
            (T.ob
              (0 ≤ Int.tmod i (IntKind.wrap IntKind.i64 (1 + pkV cs (pkA (pkA a 41) 5) (pkS cs (pkA a 41) (pkS cs a s 41) 5) 5)) ∧
                Int.tmod i (IntKind.wrap IntKind.i64 (1 + pkV cs (pkA (pkA a 41) 5) (pkS cs (pkA a 41) (pkS cs a s 41) 5) 5)) < (↑(List.length season) : Int))
              (T.ob
                (VC g_spec_l00Src__pick [AV.bx (Tag.own 800000) [AV.sl Tag.ro 0 (Cont.i IntKind.u8 s0), AV.i IntKind.i64 s1, AV.i IntKind.u64 s2], AV.i IntKind.i64 5]
                    (AV.bx Tag.nil
                      [AV.i IntKind.i64 (pkV s0 s1 s2 5), AV.tup [AV.bx (Tag.own 800000) [AV.sl Tag.ro 0 (Cont.i IntKind.u8 s0), AV.i IntKind.i64 (pkA s1 5), AV.i IntKind.u64 (pkS s0 s1 s2 5)], AV.i IntKind.i64 5]]) ∧
                  True)
                (T.ob True
                  (T.ob True
                    (T.ob
                      (List.length out +
                          List.length
                            [fdiv FloatKind.f32
                                (fofi FloatKind.f32
                                  (IntKind.wrap IntKind.i64
                                    (IntKind.wrap IntKind.i64
                                        (IntKind.wrap IntKind.i64
                                            (IntKind.wrap IntKind.i64
                                                (IntKind.wrap IntKind.i64 (pkV cs a s 41 - 20) +
                                                  IntKind.wrap IntKind.i64 (Int.tdiv (IntKind.wrap IntKind.i64 (IntKind.wrap IntKind.i64 (pkV cs (pkA a 41) (pkS cs a s 41) 5 - 2) * i)) 2)) +
                                              List.getD season (Int.toNat (Int.tmod i (IntKind.wrap IntKind.i64 (1 + pkV cs (pkA (pkA a 41) 5) (pkS cs (pkA a 41) (pkS cs a s 41) 5) 5)))) 0) +
                                          pkV s0 s1 s2 5) -
                                      2)))
                                1073741824] ≤
                        4294967296)
                      (T.leaf
                        (Ex.normal,
                          h_spec_l02DrawOk_L2 cs a s n s0 (pkA s1 5) (pkS s0 s1 s2 5) season
                            (out ++
                              [fdiv FloatKind.f32
                                  (fofi FloatKind.f32
                                    (IntKind.wrap IntKind.i64
                                      (IntKind.wrap IntKind.i64
                                          (IntKind.wrap IntKind.i64
                                              (IntKind.wrap IntKind.i64
                                                  (IntKind.wrap IntKind.i64 (pkV cs a s 41 - 20) +
                                                    IntKind.wrap IntKind.i64 (Int.tdiv (IntKind.wrap IntKind.i64 (IntKind.wrap IntKind.i64 (pkV cs (pkA a 41) (pkS cs a s 41) 5 - 2) * i)) 2)) +
                                                List.getD season (Int.toNat (Int.tmod i (IntKind.wrap IntKind.i64 (1 + pkV cs (pkA (pkA a 41) 5) (pkS cs (pkA a 41) (pkS cs a s 41) 5) 5)))) 0) +
                                            pkV s0 s1 s2 5) -
                                        2)))
                                  1073741824])
                            (IntKind.wrap IntKind.i64 (i + 1)))))))))))
        (T.leaf (Ex.exit 2, h_spec_l02DrawOk_L2 cs a s n s0 s1 s2 season out i)))) :
    Exec VC ps_spec_l02DrawOk (b_spec_l02DrawOk_L2 g_spec_l00Src__pick) (h_spec_l02DrawOk_L2 cs a s n s0 s1 s2 season out i) e_ σ_ := evL_of (lv := lv_spec_l02DrawOk_L2) (rs := [0, 4]) (O := ⟨oc_spec_l02DrawOk cs a s n, fun _ _ => none⟩) (by kernel_rfl) ht

theorem q_spec_l02DrawOk {P : Program} {g_f : FuncId} {g_spec_l00Src__pick : FuncId} (h_ : Is_spec_l02DrawOk P g_f g_spec_l00Src__pick) (cs : List Int) (a : Int) (s : Int) (n : Int) (ht : T.ok (fun x_ => x_ = (OS 0 .f32 (s2L cs a s n.toNat), [SRC HI cs (a + 3 + s2P cs a s + n) (sdN cs a s (3 + s2P cs a s + n.toNat)), .i .i64 n])) (
      T.ob
        ((VCall P) g_spec_l00Src__pick [AV.bx (Tag.own 800000) [AV.sl Tag.ro 0 (Cont.i IntKind.u8 cs), AV.i IntKind.i64 a, AV.i IntKind.u64 s], AV.i IntKind.i64 41]
            (AV.bx Tag.nil [AV.i IntKind.i64 (pkV cs a s 41), AV.tup [AV.bx (Tag.own 800000) [AV.sl Tag.ro 0 (Cont.i IntKind.u8 cs), AV.i IntKind.i64 (pkA a 41), AV.i IntKind.u64 (pkS cs a s 41)], AV.i IntKind.i64 41]]) ∧
          True)
        (T.ob
          ((VCall P) g_spec_l00Src__pick [AV.bx (Tag.own 800000) [AV.sl Tag.ro 0 (Cont.i IntKind.u8 cs), AV.i IntKind.i64 (pkA a 41), AV.i IntKind.u64 (pkS cs a s 41)], AV.i IntKind.i64 5]
              (AV.bx Tag.nil
                [AV.i IntKind.i64 (pkV cs (pkA a 41) (pkS cs a s 41) 5),
                  AV.tup [AV.bx (Tag.own 800000) [AV.sl Tag.ro 0 (Cont.i IntKind.u8 cs), AV.i IntKind.i64 (pkA (pkA a 41) 5), AV.i IntKind.u64 (pkS cs (pkA a 41) (pkS cs a s 41) 5)], AV.i IntKind.i64 5]]) ∧
            True)
          (T.ob
            ((VCall P) g_spec_l00Src__pick [AV.bx (Tag.own 800000) [AV.sl Tag.ro 0 (Cont.i IntKind.u8 cs), AV.i IntKind.i64 (pkA (pkA a 41) 5), AV.i IntKind.u64 (pkS cs (pkA a 41) (pkS cs a s 41) 5)], AV.i IntKind.i64 5]
                (AV.bx Tag.nil
                  [AV.i IntKind.i64 (pkV cs (pkA (pkA a 41) 5) (pkS cs (pkA a 41) (pkS cs a s 41) 5) 5),
                    AV.tup
                      [AV.bx (Tag.own 800000) [AV.sl Tag.ro 0 (Cont.i IntKind.u8 cs), AV.i IntKind.i64 (pkA (pkA (pkA a 41) 5) 5), AV.i IntKind.u64 (pkS cs (pkA (pkA a 41) 5) (pkS cs (pkA a 41) (pkS cs a s 41) 5) 5)],
                        AV.i IntKind.i64 5]]) ∧
              True)
            (T.ob
              (Exec (VCall P) ps_spec_l02DrawOk (VCode.block 0 (VCode.loop (b_spec_l02DrawOk_L0 g_spec_l00Src__pick)))
                (h_spec_l02DrawOk_L0 cs a s n cs (pkA (pkA (pkA a 41) 5) 5) (pkS cs (pkA (pkA a 41) 5) (pkS cs (pkA a 41) (pkS cs a s 41) 5) 5) [] 0) Ex.normal
                (h_spec_l02DrawOk_L0 cs a s n cs (a + 3 + (↑(s2P cs a s) : Int)) (sdN cs a s (3 + s2P cs a s)) (s2E cs a s (s2P cs a s)) (↑(s2P cs a s) : Int)))
              (T.ob
                (Exec (VCall P) ps_spec_l02DrawOk (VCode.block 2 (VCode.loop (b_spec_l02DrawOk_L2 g_spec_l00Src__pick)))
                  (h_spec_l02DrawOk_L2 cs a s n cs (a + 3 + (↑(s2P cs a s) : Int)) (sdN cs a s (3 + s2P cs a s)) (s2E cs a s (s2P cs a s)) [] 0) Ex.normal
                  (h_spec_l02DrawOk_L2 cs a s n cs (a + 3 + (↑(s2P cs a s) : Int) + n) (sdN cs a s (3 + s2P cs a s + Int.toNat n)) (s2E cs a s (s2P cs a s)) (s2L cs a s (Int.toNat n)) n))
                (T.ob True
                  (T.leaf
                    (AV.sl (Tag.own 0) 0 (Cont.f FloatKind.f32 (s2L cs a s (Int.toNat n))),
                      [AV.bx (Tag.own 800000) [AV.sl Tag.ro 0 (Cont.i IntKind.u8 cs), AV.i IntKind.i64 (a + 3 + (↑(s2P cs a s) : Int) + n), AV.i IntKind.u64 (sdN cs a s (3 + s2P cs a s + Int.toNat n))],
                        AV.i IntKind.i64 n]))))))))) :
    VCall P g_f [SRC HI cs a s, .i .i64 n] (AV.M (OS 0 .f32 (s2L cs a s n.toNat)) [SRC HI cs (a + 3 + s2P cs a s + n) (sdN cs a s (3 + s2P cs a s + n.toNat)), .i .i64 n]) := h_.callM_of ps_spec_l02DrawOk [0] ⟨oc_spec_l02DrawOk cs a s n, fun id σ => match id with | 0 => some (lv_spec_l02DrawOk_L0, .leaf (.normal, h_spec_l02DrawOk_L0 cs a s n cs (a + 3 + s2P cs a s) (sdN cs a s (3 + s2P cs a s)) (s2E cs a s (s2P cs a s)) (s2P cs a s))) | 2 => some (lv_spec_l02DrawOk_L2, .leaf (.normal, h_spec_l02DrawOk_L2 cs a s n cs (a + 3 + s2P cs a s + n) (sdN cs a s (3 + s2P cs a s + n.toNat)) (s2E cs a s (s2P cs a s)) (s2L cs a s n.toNat) n)) | _ => none⟩ (by kernel_rfl) ht

-- END spec_l02DrawOk

-- FN spec_R8Series
/-- spec.R8Series: slots 11, results [.t 4]; calls [7:g_spec_l00From, 10:g_spec_l02DrawOk]; names [(code, 0), (n, 1), (code, 2), (n, 3), (s, 5)] -/
def ps_spec_R8Series : List Nat := [0, 1, 4, 5]
def b_spec_R8Series (g_spec_l00From g_spec_l02DrawOk : FuncId) : VCode :=
  (.seq
   (.region false [
    ⟨some 4, (.nilsl (.f .f32 [])), [], none⟩])
   (.seq
    (.region false [
     ⟨some 6, .mv, [.t 0], none⟩,
     ⟨some 7, (.call g_spec_l00From), [.t 6], none⟩,
     ⟨some 5, .mv, [.t 7], none⟩])
    (.seq
     (.region false [
      ⟨some 8, .mv, [.t 5], none⟩,
      ⟨some 9, .mv, [.t 1], none⟩,
      ⟨some 10, (.call g_spec_l02DrawOk), [.t 8, .t 9], none⟩,
      ⟨some 4, .mv, [.t 10], none⟩])
     .ret)))

abbrev Is_spec_R8Series (P : Program) (g_f : FuncId) (g_spec_l00From g_spec_l02DrawOk : FuncId) : Prop := FnIs P g_f 11 [.t 4] (b_spec_R8Series g_spec_l00From g_spec_l02DrawOk)

abbrev C_spec_R8Series (P : Program) (g_f : FuncId) : Prop := ∀ (cs : List Int) (n : Int) (hn : 0 ≤ n ∧ n ≤ 1000) (hc : Byt cs) (hl : cs.length ≤ maxLen), VCall P g_f [PU [0] cs, .i .i64 n] (OS 0 .f32 (s2L cs 0 0 n.toNat))
def oc_spec_R8Series (cs : List Int) (n : Int) (d : Nat) (as : List AV) : T AV := match d with | 7 => oc1_spec_l00From as | 10 => oc1_spec_l02DrawOk as | _ => .fail



theorem q_spec_R8Series {P : Program} {g_f : FuncId} {g_spec_l00From g_spec_l02DrawOk : FuncId} (h_ : Is_spec_R8Series P g_f g_spec_l00From g_spec_l02DrawOk) (cs : List Int) (n : Int) (ht : T.ok (fun x_ => x_ = OS 0 .f32 (s2L cs 0 0 n.toNat)) (
      T.ob ((VCall P) g_spec_l00From [AV.sl (Tag.par [0]) 0 (Cont.i IntKind.u8 cs)] (AV.bx (Tag.own 0) [AV.sl (Tag.par [0]) 0 (Cont.i IntKind.u8 cs), AV.i IntKind.i64 0, AV.i IntKind.u64 0]))
        (T.ob
          ((VCall P) g_spec_l02DrawOk [AV.bx (Tag.own 800000) [AV.sl Tag.ro 0 (Cont.i IntKind.u8 cs), AV.i IntKind.i64 0, AV.i IntKind.u64 0], AV.i IntKind.i64 n]
              (AV.bx Tag.nil
                [AV.sl (Tag.own 0) 0 (Cont.f FloatKind.f32 (s2L cs 0 0 (Int.toNat n))),
                  AV.tup [AV.bx (Tag.own 800000) [AV.sl Tag.ro 0 (Cont.i IntKind.u8 cs), AV.i IntKind.i64 (3 + (↑(s2P cs 0 0) : Int) + n), AV.i IntKind.u64 (sdN cs 0 0 (3 + s2P cs 0 0 + Int.toNat n))], AV.i IntKind.i64 n]]) ∧
            True)
          (T.leaf (AV.sl (Tag.own 0) 0 (Cont.f FloatKind.f32 (s2L cs 0 0 (Int.toNat n)))))))) :
    VCall P g_f [PU [0] cs, .i .i64 n] (OS 0 .f32 (s2L cs 0 0 n.toNat)) := h_.call_of ps_spec_R8Series ⟨oc_spec_R8Series cs n, fun _ _ => none⟩ (by kernel_rfl) ht

-- END spec_R8Series

theorem pk_at {cs : List Int} {a s : Int} (j : Nat) {n : Int} (h : 1 < n ∧ n ≤ 200) : pkV cs (a + j) (sdN cs a s j) n = (vlN cs a s j).tmod n ∧ pkA (a + j) n = a + (j + 1 : Nat) ∧ pkS cs (a + j) (sdN cs a s j) n = sdN cs a s (j + 1) := by
  obtain ⟨p1, p2, p3⟩ := pk_one (cs := cs) (a := a + j) (s := sdN cs a s j) (n := n) h
  exact ⟨p1, by rw [p2]; omega, p3⟩
theorem vl_mod {cs : List Int} (hc : Byt cs) (a s : Int) (j : Nat) {n : Int} (hn : 0 < n) : 0 ≤ (vlN cs a s j).tmod n ∧ (vlN cs a s j).tmod n < n := by
  have := srV_le hc (a + j) (sdN cs a s j)
  exact tmod_byte this.1 hn
theorem s2V_le {cs : List Int} (hc : Byt cs) (a s : Int) : -20 ≤ s2V cs a s ∧ s2V cs a s ≤ 20 := by
  have := vl_mod hc a s 0 (n := 41) (by omega); unfold s2V; omega
theorem s2W_le {cs : List Int} (hc : Byt cs) (a s : Int) : -2 ≤ s2W cs a s ∧ s2W cs a s ≤ 2 := by
  have := vl_mod hc a s 1 (n := 5) (by omega); unfold s2W; omega
theorem s2P_le {cs : List Int} (hc : Byt cs) (a s : Int) : 1 ≤ s2P cs a s ∧ s2P cs a s ≤ 5 := by
  have := vl_mod hc a s 2 (n := 5) (by omega); unfold s2P; omega
theorem s2E_len (cs : List Int) (a s : Int) (p : Nat) : (s2E cs a s p).length = p := tab_len _ _
theorem s2E_le {cs : List Int} (hc : Byt cs) (a s : Int) (p k : Nat) : -4 ≤ (s2E cs a s p).getD k 0 ∧ (s2E cs a s p).getD k 0 ≤ 4 := by
  by_cases h : k < p
  · have := vl_mod hc a s (3 + k) (n := 9) (by omega)
    unfold s2E; rw [tab_get _ _ _ _ h]; omega
  · have : (s2E cs a s p).getD k 0 = 0 := by
      simp only [List.getD]; rw [List.getElem?_eq_none (by rw [s2E_len]; omega)]; rfl
    omega
theorem s2L_len (cs : List Int) (a s : Int) (n : Nat) : (s2L cs a s n).length = n := tab_len _ _

theorem tdiv2 {x : Int} (h : -2000 ≤ x ∧ x ≤ 2000) : -1000 ≤ x.tdiv 2 ∧ x.tdiv 2 ≤ 1000 := by
  rcases Int.le_total 0 x with h0 | h0
  · rw [Int.tdiv_eq_ediv_of_nonneg h0]; omega
  · obtain ⟨y, rfl⟩ : ∃ y, x = -y := ⟨-x, by omega⟩
    rw [Int.neg_tdiv, Int.tdiv_eq_ediv_of_nonneg (by omega)]; omega
theorem k_spec_l02DrawOk {P : Program} {f g : FuncId} (h : Is_spec_l02DrawOk P f g) (c1 : C_spec_l00Src__pick P g) : C_spec_l02DrawOk P f := by
  intro cs a s n ha hn hc hl
  obtain ⟨h01, h02, h03⟩ := pk_at (cs := cs) (a := a) (s := s) 0 (n := 41) (by omega)
  obtain ⟨h11, h12, h13⟩ := pk_at (cs := cs) (a := a) (s := s) 1 (n := 5) (by omega)
  obtain ⟨h21, h22, h23⟩ := pk_at (cs := cs) (a := a) (s := s) 2 (n := 5) (by omega)
  rw [show a + ((0 : Nat) : Int) = a by omega, show sdN cs a s 0 = s from rfl] at h01 h03
  rw [show a + ((0 : Nat) : Int) = a by omega] at h02
  simp only [Nat.zero_add, Nat.reduceAdd] at h02 h03 h12 h13 h22 h23
  have hV := s2V_le hc a s
  have hW := s2W_le hc a s
  have hP := s2P_le hc a s
  have wV : IntKind.wrap .i64 ((vlN cs a s 0).tmod 41 - 20) = s2V cs a s := by
    rw [wrap64_id (by unfold s2V at hV; omega) (by unfold s2V at hV; omega)]; rfl
  have wW : IntKind.wrap .i64 ((vlN cs a s 1).tmod 5 - 2) = s2W cs a s := by
    rw [wrap64_id (by unfold s2W at hW; omega) (by unfold s2W at hW; omega)]; rfl
  have wP : IntKind.wrap .i64 (1 + (vlN cs a s 2).tmod 5) = (s2P cs a s : Nat) := by
    have := vl_mod hc a s 2 (n := 5) (by omega)
    rw [wrap64_id (by omega) (by omega)]; unfold s2P; omega
  have b0 := c1 cs a s 41 (by omega) hc hl
  have b1 := c1 cs (a + (1 : Nat)) (sdN cs a s 1) 5 (by omega) hc hl
  have b2 := c1 cs (a + (2 : Nat)) (sdN cs a s 2) 5 (by omega) hc hl
  refine q_spec_l02DrawOk h cs a s n ?_
  rw [h01, h02, h03] at b0
  rw [h11, h12, h13] at b1
  rw [h21, h22, h23] at b2
  simp only [h01, h02, h03, h11, h12, h13, h21, h22, h23]
  refine ⟨⟨b0, trivial⟩, fun _ => ⟨⟨b1, trivial⟩, fun _ => ⟨⟨b2, trivial⟩, fun _ => ⟨?_, fun _ => ⟨?_, fun _ => ⟨trivial, fun _ => rfl⟩⟩⟩⟩⟩⟩
  · rw [show a + 3 + ((s2P cs a s : Nat) : Int) = a + ((3 + s2P cs a s : Nat) : Int) by omega]
    refine for_up (e := .exit 0) (s2P cs a s) (fun k => h_spec_l02DrawOk_L0 cs a s n cs (a + (3 + k : Nat)) (sdN cs a s (3 + k)) (s2E cs a s k) k) rfl (fun k hk => ?_) ?_
    · obtain ⟨p1, p2, p3⟩ := pk_at (cs := cs) (a := a) (s := s) (3 + k) (n := 9) (by omega)
      have bk := c1 cs (a + (3 + k : Nat)) (sdN cs a s (3 + k)) 9 (by omega) hc hl
      have hv := vl_mod hc a s (3 + k) (n := 9) (by omega)
      rw [p1, p2, p3] at bk
      have hE := s2E_len cs a s k
      have eE : s2E cs a s (k + 1) = s2E cs a s k ++ [(vlN cs a s (3 + k)).tmod 9 - 4] := tab_succ _ _
      refine q_spec_l02DrawOk_L0 _ _ _ _ _ _ _ _ _ ?_
      simp only [h01, h02, h03, h11, h12, h13, h21, h22, h23, wP, p1, p2, p3]
      rw [wrap64_id (n := (vlN cs a s (3 + k)).tmod 9 - 4) (by omega) (by omega), ← eE]
      refine ⟨fun _ => ⟨⟨bk, trivial⟩, fun _ => ⟨by simp [hE]; omega, fun _ => ?_⟩⟩, fun h => absurd (of_decide_eq_false h) (by omega)⟩
      show _ = _
      rw [wrap64_id (by omega) (by omega)]; rfl
    · refine q_spec_l02DrawOk_L0 _ _ _ _ _ _ _ _ _ ?_
      simp only [h01, h02, h03, h11, h12, h13, h21, h22, h23, wP]
      exact ⟨fun h => absurd (of_decide_eq_true h) (by omega), fun _ => rfl⟩
  · obtain ⟨m, rfl⟩ : ∃ m : Nat, n = m := ⟨n.toNat, by omega⟩
    rw [Int.toNat_natCast, show a + 3 + ((s2P cs a s : Nat) : Int) + (m : Int) = a + ((3 + s2P cs a s + m : Nat) : Int) by omega, show a + 3 + ((s2P cs a s : Nat) : Int) = a + ((3 + s2P cs a s + 0 : Nat) : Int) by omega]
    refine for_up (e := .exit 2) m (fun i => h_spec_l02DrawOk_L2 cs a s m cs (a + (3 + s2P cs a s + i : Nat)) (sdN cs a s (3 + s2P cs a s + i)) (s2E cs a s (s2P cs a s)) (s2L cs a s i) i) rfl (fun i hi => ?_) ?_
    · obtain ⟨p1, p2, p3⟩ := pk_at (cs := cs) (a := a) (s := s) (3 + s2P cs a s + i) (n := 5) (by omega)
      have bk := c1 cs (a + (3 + s2P cs a s + i : Nat)) (sdN cs a s (3 + s2P cs a s + i)) 5 (by omega) hc hl
      have hv := vl_mod hc a s (3 + s2P cs a s + i) (n := 5) (by omega)
      rw [p1, p2, p3] at bk
      have hE := s2E_len cs a s (s2P cs a s)
      have hEv := s2E_le hc a s (s2P cs a s) (i % s2P cs a s)
      have eL : s2L cs a s (i + 1) = s2L cs a s i ++ [s2F (s2X cs a s i)] := tab_succ _ _
      have em : Int.tmod (i : Int) (s2P cs a s : Nat) = (i % s2P cs a s : Nat) := by rw [Int.tmod_eq_emod_of_nonneg (by omega)]; rfl
      have hml : i % s2P cs a s < s2P cs a s := Nat.mod_lt _ (by omega)
      have hWi : -2000 ≤ s2W cs a s * (i : Int) ∧ s2W cs a s * (i : Int) ≤ 2000 := by
        have h1 : (i : Int) ≤ 1000 := by omega
        rcases (show s2W cs a s = -2 ∨ s2W cs a s = -1 ∨ s2W cs a s = 0 ∨ s2W cs a s = 1 ∨ s2W cs a s = 2 by omega) with e | e | e | e | e <;> rw [e] <;> omega
      have hd : -1000 ≤ (s2W cs a s * (i : Int)).tdiv 2 ∧ (s2W cs a s * (i : Int)).tdiv 2 ≤ 1000 := tdiv2 hWi
      refine q_spec_l02DrawOk_L2 _ _ _ _ _ _ _ _ _ _ ?_
      simp only [h01, h02, h03, h11, h12, h13, h21, h22, h23, wV, wW, wP, p1, p2, p3, em, Int.toNat_natCast]
      rw [wrap64_id (n := s2W cs a s * (i : Int)) (by omega) (by omega), wrap64_id (n := (s2W cs a s * (i : Int)).tdiv 2) (by omega) (by omega), wrap64_id (n := s2V cs a s + (s2W cs a s * (i : Int)).tdiv 2) (by omega) (by omega),
        wrap64_id (n := s2V cs a s + (s2W cs a s * (i : Int)).tdiv 2 + (s2E cs a s (s2P cs a s)).getD (i % s2P cs a s) 0) (by omega) (by omega),
        wrap64_id (n := s2V cs a s + (s2W cs a s * (i : Int)).tdiv 2 + (s2E cs a s (s2P cs a s)).getD (i % s2P cs a s) 0 + (vlN cs a s (3 + s2P cs a s + i)).tmod 5) (by omega) (by omega),
        wrap64_id (n := s2V cs a s + (s2W cs a s * (i : Int)).tdiv 2 + (s2E cs a s (s2P cs a s)).getD (i % s2P cs a s) 0 + (vlN cs a s (3 + s2P cs a s + i)).tmod 5 - 2) (by omega) (by omega)]
      rw [show fdiv FloatKind.f32 (fofi FloatKind.f32 (s2V cs a s + (s2W cs a s * (i : Int)).tdiv 2 + (s2E cs a s (s2P cs a s)).getD (i % s2P cs a s) 0 + (vlN cs a s (3 + s2P cs a s + i)).tmod 5 - 2)) 1073741824 = s2F (s2X cs a s i) from rfl, ← eL]
      have hLl := s2L_len cs a s i
      refine ⟨fun _ => ⟨by omega, fun _ => ⟨by omega, fun _ => ⟨by omega, fun _ => ⟨⟨bk, trivial⟩, fun _ => ⟨trivial, fun _ => ⟨trivial, fun _ => ⟨by simp [hLl]; omega, fun _ => ?_⟩⟩⟩⟩⟩⟩⟩, fun h => absurd (of_decide_eq_false h) (by omega)⟩
      show _ = _
      rw [wrap64_id (by omega) (by omega)]; rfl
    · exact q_spec_l02DrawOk_L2 _ _ _ _ _ _ _ _ _ _ ⟨fun h => absurd (of_decide_eq_true h) (by omega), fun _ => rfl⟩
theorem k_spec_R8Series {P : Program} {f g1 g2 : FuncId} (h : Is_spec_R8Series P f g1 g2) (c1 : C_spec_l00From P g1) (c2 : C_spec_l02DrawOk P g2) : C_spec_R8Series P f := by
  intro cs n hn hc hl
  have b := c2 cs 0 0 n (by omega) hn hc hl
  exact q_spec_R8Series h cs n ⟨c1 cs, fun _ => ⟨⟨b, trivial⟩, fun _ => rfl⟩⟩

end Go.Proofs.LV
