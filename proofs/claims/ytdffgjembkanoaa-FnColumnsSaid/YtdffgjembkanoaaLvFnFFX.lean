/- Texts that belong together. -/
import Derived.Test.YtdffgjembkanoaaLvFnBBX
import Derived.Test.YtdffgjembkanoaaLvExtX
import Derived.Test.YtdffgjembkanoaaLvAbsX
namespace Go.Proofs.LV
open Go
set_option linter.unusedVariables false
set_option linter.unusedSimpArgs false

/-- the source, as it is handed on -/
abbrev SRC (n : Nat) (cs : List Int) (at_ : Int) (seed : Int) : AV := .bx (.own n) [.sl .ro 0 (.i .u8 cs), .i .i64 at_, .i .u64 seed]
open Go.IntKind (wrap)
-- FN spec_l00From
def ps_spec_l00From : List Nat := [0, 2]
def b_spec_l00From : VCode :=
 (.seq
 (.region false [
 ⟨some 2, .mv, [.k .any], none⟩])
 (.seq
 (.region false [
 ⟨some 3, .mv, [.t 0], none⟩,
 ⟨some 4, (.build [(.sl .nil 0 (.i .u8 [])), (.i .i64 0), (.i .u64 0)] [0]), [.t 3], none⟩,
 ⟨some 5, .boxN, [.t 4], none⟩,
 ⟨some 2, .mv, [.t 5], none⟩])
 .ret))

abbrev Is_spec_l00From (P : Program) (g_f : FuncId) : Prop := FnIs P g_f 6 [.t 2] (b_spec_l00From)

abbrev C_spec_l00From (P : Program) (g_f : FuncId) : Prop := ∀ (cs : List Int), VCall P g_f [PU [0] cs] (.bx (.own 0) [PU [0] cs, .i .i64 0, .i .u64 0])
def oc1_spec_l00From (as : List AV) : T AV := match as with | [.sl _ _ (.i _ cs)] => .leaf (.bx (.own 0) [PU [0] cs, .i .i64 0, .i .u64 0]) | _ => .fail



theorem q_spec_l00From {P : Program} {g_f : FuncId} (h_ : Is_spec_l00From P g_f) (cs : List Int) (ht : T.ok (fun x_ => x_ = .bx (.own 0) [PU [0] cs, .i .i64 0, .i .u64 0]) (
 T.ob (false = false) (T.leaf (AV.bx (Tag.own 0) [AV.sl (Tag.par [0]) 0 (Cont.i .u8 cs), AV.i .i64 0, AV.i .u64 0])))) :
 VCall P g_f [PU [0] cs] (.bx (.own 0) [PU [0] cs, .i .i64 0, .i .u64 0]) := h_.call_of ps_spec_l00From ⟨fun _ _ => .fail, fun _ _ => none⟩ (by kernel_rfl) ht

-- END spec_l00From

def srB (cs : List Int) (a : Int) : Int := if a < cs.length then cs.getD a.toNat 0 else 0
def srS (cs : List Int) (a s : Int) : Int := IntKind.wrap .u64 (IntKind.wrap .u64 (IntKind.wrap .u64 (s * 6364136223846793005) + IntKind.wrap .u64 (srB cs a)) + 1442695040888963407)
def srV (cs : List Int) (a s : Int) : Int := if a < cs.length then cs.getD a.toNat 0 else ibits .and .u64 ((srS cs a s).fdiv (2 ^ 40)) 255
-- FN spec_l00Src__next
def ps_spec_l00Src__next : List Nat := [0, 2, 3, 13, 53]
def b_spec_l00Src__next : VCode :=
 (.seq
 (.region false [
 ⟨some 2, .mv, [.k (.i .i64 0)], none⟩])
 (.seq
 (.region false [
 ⟨some 3, .mv, [.k (.i .i64 0)], none⟩])
 (.seq
 (.seq
 (.region true [
 ⟨some 4, .mv, [.t 0], none⟩,
 ⟨some 5, .nilck, [.t 4], none⟩,
 ⟨some 6, (.faddr 1), [.t 5], none⟩,
 ⟨some 7, .load, [.t 6], none⟩,
 ⟨some 8, .mv, [.t 0], none⟩,
 ⟨some 9, .nilck, [.t 8], none⟩,
 ⟨some 10, (.faddr 0), [.t 9], none⟩,
 ⟨some 11, .load, [.t 10], none⟩,
 ⟨some 12, .len, [.t 11], none⟩,
 ⟨some 13, (.bin .lss), [.t 7, .t 12], none⟩])
 (.cond (.t 13)
 (.region true [
 ⟨some 14, .mv, [.t 0], none⟩,
 ⟨some 15, .nilck, [.t 14], none⟩,
 ⟨some 16, (.faddr 0), [.t 15], none⟩,
 ⟨some 17, .load, [.t 16], none⟩,
 ⟨some 18, .mv, [.t 0], none⟩,
 ⟨some 19, .nilck, [.t 18], none⟩,
 ⟨some 20, (.faddr 1), [.t 19], none⟩,
 ⟨some 21, .load, [.t 20], none⟩,
 ⟨some 22, .iaddr, [.t 17, .t 21], none⟩,
 ⟨some 23, .load, [.t 22], none⟩,
 ⟨some 24, (.convI .i64), [.t 23], none⟩,
 ⟨some 3, .mv, [.t 24], none⟩])
 .skip))
 (.seq
 (.region false [
 ⟨some 25, .mv, [.t 0], none⟩,
 ⟨some 26, .nilck, [.t 25], none⟩,
 ⟨some 27, (.faddr 1), [.t 26], none⟩,
 ⟨some 28, .load, [.t 27], none⟩,
 ⟨some 29, (.bin .add), [.t 28, .k (.i .i64 1)], none⟩,
 ⟨some 30, .nilck, [.t 25], none⟩,
 ⟨some 31, (.faddr 1), [.t 30], none⟩,
 ⟨none, .store, [.t 31, .t 29], none⟩])
 (.seq
 (.region false [
 ⟨some 32, .mv, [.t 0], none⟩,
 ⟨some 33, .mv, [.t 0], none⟩,
 ⟨some 34, .nilck, [.t 33], none⟩,
 ⟨some 35, (.faddr 2), [.t 34], none⟩,
 ⟨some 36, .load, [.t 35], none⟩,
 ⟨some 37, (.bin .mul), [.t 36, .k (.i .u64 6364136223846793005)], none⟩,
 ⟨some 38, .mv, [.t 3], none⟩,
 ⟨some 39, (.convI .u64), [.t 38], none⟩,
 ⟨some 40, (.bin .add), [.t 37, .t 39], none⟩,
 ⟨some 41, (.bin .add), [.t 40, .k (.i .u64 1442695040888963407)], none⟩,
 ⟨some 42, .nilck, [.t 32], none⟩,
 ⟨some 43, (.faddr 2), [.t 42], none⟩,
 ⟨none, .store, [.t 43, .t 41], none⟩])
 (.seq
 (.seq
 (.region true [
 ⟨some 44, .mv, [.t 0], none⟩,
 ⟨some 45, .nilck, [.t 44], none⟩,
 ⟨some 46, (.faddr 1), [.t 45], none⟩,
 ⟨some 47, .load, [.t 46], none⟩,
 ⟨some 48, .mv, [.t 0], none⟩,
 ⟨some 49, .nilck, [.t 48], none⟩,
 ⟨some 50, (.faddr 0), [.t 49], none⟩,
 ⟨some 51, .load, [.t 50], none⟩,
 ⟨some 52, .len, [.t 51], none⟩,
 ⟨some 53, (.bin .leq), [.t 47, .t 52], none⟩])
 (.cond (.t 53)
 (.seq
 (.region false [
 ⟨some 54, .mv, [.t 3], none⟩,
 ⟨some 2, .mv, [.t 54], none⟩])
 .ret)
 .skip))
 (.seq
 (.region false [
 ⟨some 55, .mv, [.t 0], none⟩,
 ⟨some 56, .nilck, [.t 55], none⟩,
 ⟨some 57, (.faddr 2), [.t 56], none⟩,
 ⟨some 58, .load, [.t 57], none⟩,
 ⟨some 59, (.bin .shr), [.t 58, .k (.i .u64 40)], none⟩,
 ⟨some 60, (.bin .and), [.t 59, .k (.i .u64 255)], none⟩,
 ⟨some 61, (.convI .i64), [.t 60], none⟩,
 ⟨some 2, .mv, [.t 61], none⟩])
 .ret)))))))

abbrev Is_spec_l00Src__next (P : Program) (g_f : FuncId) : Prop := FnIs P g_f 62 [.t 2] (b_spec_l00Src__next)

abbrev C_spec_l00Src__next (P : Program) (g_f : FuncId) : Prop := ∀ (cs : List Int) (a : Int) (s : Int) (ha : 0 ≤ a ∧ a ≤ 4294967296) (hc : Byt cs) (hl : cs.length ≤ maxLen), VCall P g_f [SRC HI cs a s] ((AV.M (.i .i64 (srV cs a s)) [SRC HI cs (a + 1) (srS cs a s)]))
def oc1_spec_l00Src__next (as : List AV) : T AV := match as with | [.bx _ [.sl _ _ (.i _ cs), .i _ a, .i _ s]] => .leaf ((AV.M (.i .i64 (srV cs a s)) [SRC HI cs (a + 1) (srS cs a s)])) | _ => .fail



theorem q_spec_l00Src__next {P : Program} {g_f : FuncId} (h_ : Is_spec_l00Src__next P g_f) (cs : List Int) (a : Int) (s : Int) (ht : T.ok (fun x_ => x_ = (.i .i64 (srV cs a s), [SRC HI cs (a + 1) (srS cs a s)])) (
 T.ite (decide (a < (↑(List.length cs) : Int)))
 (T.ob (0 ≤ a ∧ a < (↑(List.length cs) : Int))
 (T.ob True
 (T.ob (false = false)
 (T.ob True
 (T.ob (false = false)
 (T.ite (decide (wrap .i64 (a + 1) ≤ (↑(List.length cs) : Int)))
 (T.ob True
 (T.leaf
 (AV.i .i64 (wrap .i64 (List.getD cs (Int.toNat a) 0)),
 [AV.bx (Tag.own 800000)
 [AV.sl Tag.ro 0 (Cont.i .u8 cs), AV.i .i64 (wrap .i64 (a + 1)),
 AV.i .u64
 (wrap .u64
 (wrap .u64 (wrap .u64 (s * 6364136223846793005) + wrap .u64 (wrap .i64 (List.getD cs (Int.toNat a) 0))) +
 1442695040888963407))]])))
 (T.ob ((0 : Int) ≤ 40 ∧ 40 ≤ 64)
 (T.ob True
 (T.ob True
 (T.leaf
 (AV.i .i64
 (wrap .i64
 (ibits BinOp.and .u64
 (Int.fdiv
 (wrap .u64
 (wrap .u64 (wrap .u64 (s * 6364136223846793005) + wrap .u64 (wrap .i64 (List.getD cs (Int.toNat a) 0))) +
 1442695040888963407))
 1099511627776)
 255)),
 [AV.bx (Tag.own 800000)
 [AV.sl Tag.ro 0 (Cont.i .u8 cs), AV.i .i64 (wrap .i64 (a + 1)),
 AV.i .u64
 (wrap .u64
 (wrap .u64 (wrap .u64 (s * 6364136223846793005) + wrap .u64 (wrap .i64 (List.getD cs (Int.toNat a) 0))) +
 1442695040888963407))]])))))))))))
 (T.ob (false = false)
 (T.ob True
 (T.ob (false = false)
 (T.ite (decide (wrap .i64 (a + 1) ≤ (↑(List.length cs) : Int)))
 (T.ob True
 (T.leaf
 (AV.i .i64 0,
 [AV.bx (Tag.own 800000)
 [AV.sl Tag.ro 0 (Cont.i .u8 cs), AV.i .i64 (wrap .i64 (a + 1)),
 AV.i .u64 (wrap .u64 (wrap .u64 (wrap .u64 (s * 6364136223846793005) + 0) + 1442695040888963407))]])))
 (T.ob ((0 : Int) ≤ 40 ∧ 40 ≤ 64)
 (T.ob True
 (T.ob True
 (T.leaf
 (AV.i .i64
 (wrap .i64
 (ibits BinOp.and .u64 (Int.fdiv (wrap .u64 (wrap .u64 (wrap .u64 (s * 6364136223846793005) + 0) + 1442695040888963407)) 1099511627776) 255)),
 [AV.bx (Tag.own 800000)
 [AV.sl Tag.ro 0 (Cont.i .u8 cs), AV.i .i64 (wrap .i64 (a + 1)),
 AV.i .u64 (wrap .u64 (wrap .u64 (wrap .u64 (s * 6364136223846793005) + 0) + 1442695040888963407))]]))))))))))) :
 VCall P g_f [SRC HI cs a s] (AV.M (.i .i64 (srV cs a s)) [SRC HI cs (a + 1) (srS cs a s)]) := h_.callM_of ps_spec_l00Src__next [0] ⟨fun _ _ => .fail, fun _ _ => none⟩ (by kernel_rfl) ht

-- END spec_l00Src__next

/-- what is picked, and the state behind it -/
def pkV (cs : List Int) (a s n : Int) : Int := if n ≤ 1 then 0 else if n ≤ 200 then (srV cs a s).tmod n else (srV cs a s * 256 + srV cs (a + 1) (srS cs a s)).tmod n
def pkA (a n : Int) : Int := if n ≤ 1 then a else if n ≤ 200 then a + 1 else a + 2
def pkS (cs : List Int) (a s n : Int) : Int := if n ≤ 1 then s else if n ≤ 200 then srS cs a s else srS cs (a + 1) (srS cs a s)
-- FN spec_l00Src__pick
def ps_spec_l00Src__pick : List Nat := [0, 1, 4, 5, 7, 11]
def b_spec_l00Src__pick (gq0 : FuncId) : VCode :=
 (.seq
 (.region false [
 ⟨some 4, .mv, [.k (.i .i64 0)], none⟩])
 (.seq
 (.seq
 (.region false [
 ⟨some 6, .mv, [.t 1], none⟩,
 ⟨some 7, (.bin .leq), [.t 6, .k (.i .i64 1)], none⟩])
 (.cond (.t 7)
 (.seq
 (.region false [
 ⟨some 4, .mv, [.k (.i .i64 0)], none⟩])
 .ret)
 .skip))
 (.seq
 (.region false [
 ⟨some 8, .mv, [.t 0], none⟩,
 ⟨some 9, (.call gq0), [.t 8], none⟩,
 ⟨some 5, .mv, [.t 9], none⟩])
 (.seq
 (.seq
 (.region false [
 ⟨some 10, .mv, [.t 1], none⟩,
 ⟨some 11, (.bin .gtr), [.t 10, .k (.i .i64 200)], none⟩])
 (.cond (.t 11)
 (.region false [
 ⟨some 12, .mv, [.t 5], none⟩,
 ⟨some 13, (.bin .mul), [.t 12, .k (.i .i64 256)], none⟩,
 ⟨some 14, .mv, [.t 0], none⟩,
 ⟨some 15, (.call gq0), [.t 14], none⟩,
 ⟨some 16, (.bin .add), [.t 13, .t 15], none⟩,
 ⟨some 5, .mv, [.t 16], none⟩])
 .skip))
 (.seq
 (.region false [
 ⟨some 17, .mv, [.t 5], none⟩,
 ⟨some 18, .mv, [.t 1], none⟩,
 ⟨some 19, (.bin .rem), [.t 17, .t 18], none⟩,
 ⟨some 4, .mv, [.t 19], none⟩])
 .ret)))))

abbrev Is_spec_l00Src__pick (P : Program) (g_f : FuncId) (gq0 : FuncId) : Prop := FnIs P g_f 20 [.t 4] (b_spec_l00Src__pick gq0)

abbrev C_spec_l00Src__pick (P : Program) (g_f : FuncId) : Prop := ∀ (cs : List Int) (a : Int) (s : Int) (n : Int) (ha : 0 ≤ a ∧ a ≤ 4294967295) (hc : Byt cs) (hl : cs.length ≤ maxLen), VCall P g_f [SRC HI cs a s, .i .i64 n] ((AV.M (.i .i64 (pkV cs a s n)) [SRC HI cs (pkA a n) (pkS cs a s n), .i .i64 n]))
def oc1_spec_l00Src__pick (as : List AV) : T AV := match as with | [.bx _ [.sl _ _ (.i _ cs), .i _ a, .i _ s], .i .i64 n] => .leaf ((AV.M (.i .i64 (pkV cs a s n)) [SRC HI cs (pkA a n) (pkS cs a s n), .i .i64 n])) | _ => .fail
def oc_spec_l00Src__pick (cs : List Int) (a : Int) (s : Int) (n : Int) (d : Nat) (as : List AV) : T AV := match d with | 9 => oc1_spec_l00Src__next as | 15 => oc1_spec_l00Src__next as | _ => .fail



theorem q_spec_l00Src__pick {P : Program} {g_f : FuncId} {gq0 : FuncId} (h_ : Is_spec_l00Src__pick P g_f gq0) (cs : List Int) (a : Int) (s : Int) (n : Int) (ht : T.ok (fun x_ => x_ = (.i .i64 (pkV cs a s n), [SRC HI cs (pkA a n) (pkS cs a s n), .i .i64 n])) (
 T.ite (decide (n ≤ 1)) (T.ob True (T.leaf (AV.i .i64 0, [AV.bx (Tag.own 800000) [AV.sl Tag.ro 0 (Cont.i .u8 cs), AV.i .i64 a, AV.i .u64 s], AV.i .i64 n])))
 (T.ob
 ((VCall P) gq0 [AV.bx (Tag.own 800000) [AV.sl Tag.ro 0 (Cont.i .u8 cs), AV.i .i64 a, AV.i .u64 s]]
 (AV.bx Tag.nil [AV.i .i64 (srV cs a s), AV.tup [AV.bx (Tag.own 800000) [AV.sl Tag.ro 0 (Cont.i .u8 cs), AV.i .i64 (a + 1), AV.i .u64 (srS cs a s)]]]) ∧
 True)
 (T.ite (decide (n > 200))
 (T.ob
 ((VCall P) gq0 [AV.bx (Tag.own 800000) [AV.sl Tag.ro 0 (Cont.i .u8 cs), AV.i .i64 (a + 1), AV.i .u64 (srS cs a s)]]
 (AV.bx Tag.nil
 [AV.i .i64 (srV cs (a + 1) (srS cs a s)), AV.tup [AV.bx (Tag.own 800000) [AV.sl Tag.ro 0 (Cont.i .u8 cs), AV.i .i64 (a + 1 + 1), AV.i .u64 (srS cs (a + 1) (srS cs a s))]]]) ∧
 True)
 (T.ob (n ≠ 0)
 (T.ob True
 (T.leaf
 (AV.i .i64 (Int.tmod (wrap .i64 (wrap .i64 (srV cs a s * 256) + srV cs (a + 1) (srS cs a s))) n),
 [AV.bx (Tag.own 800000) [AV.sl Tag.ro 0 (Cont.i .u8 cs), AV.i .i64 (a + 1 + 1), AV.i .u64 (srS cs (a + 1) (srS cs a s))], AV.i .i64 n])))))
 (T.ob (n ≠ 0)
 (T.ob True (T.leaf (AV.i .i64 (Int.tmod (srV cs a s) n), [AV.bx (Tag.own 800000) [AV.sl Tag.ro 0 (Cont.i .u8 cs), AV.i .i64 (a + 1), AV.i .u64 (srS cs a s)], AV.i .i64 n])))))))) :
 VCall P g_f [SRC HI cs a s, .i .i64 n] (AV.M (.i .i64 (pkV cs a s n)) [SRC HI cs (pkA a n) (pkS cs a s n), .i .i64 n]) := h_.callM_of ps_spec_l00Src__pick [0] ⟨oc_spec_l00Src__pick cs a s n, fun _ _ => none⟩ (by kernel_rfl) ht

-- END spec_l00Src__pick

/-- the seed behind j steps, and step j's byte -/
def sdN (cs : List Int) (a s : Int) : Nat → Int
  | 0 => s
  | j + 1 => srS cs (a + j) (sdN cs a s j)
def vlN (cs : List Int) (a s : Int) (j : Nat) : Int := srV cs (a + j) (sdN cs a s j)
def s3F (k : Int) : Nat := fdiv .f32 (fofi .f32 (k - 16)) 1082130432
def s3L (cs : List Int) (a s n : Int) : List Nat := tab n.toNat fun j => s3F ((vlN cs a s j).tmod 33)
-- FN spec_l03DrawOk
def ps_spec_l03DrawOk : List Nat := [0, 1, 4, 5, 8]
def lv_spec_l03DrawOk_L0 : List Nat := [0, 1, 5]
def b_spec_l03DrawOk_L0 (gq0 : FuncId) : VCode :=
 (.seq
 (.seq
 (.region false [
 ⟨some 7, .mv, [.t 1], none⟩,
 ⟨some 8, (.bin .gtr), [.t 7, .k (.i .i64 0)], none⟩])
 (.cond (.t 8)
 .skip
 (.exit 0)))
 (.seq
 (.block 1
 (.region false [
 ⟨some 11, .mv, [.t 5], none⟩,
 ⟨some 12, .mv, [.t 0], none⟩,
 ⟨some 13, (.call gq0), [.t 12, .k (.i .i64 33)], none⟩,
 ⟨some 14, (.bin .sub), [.t 13, .k (.i .i64 16)], none⟩,
 ⟨some 15, (.convF .f32), [.t 14], none⟩,
 ⟨some 16, (.bin .quo), [.t 15, .k (.f .f32 1082130432)], none⟩,
 ⟨some 17, (.lit true (.f .f32 [])), [.t 16], none⟩,
 ⟨some 18, .app, [.t 11, .t 17], none⟩,
 ⟨some 5, .mv, [.t 18], none⟩]))
 (.region false [
 ⟨some 9, .mv, [.t 1], none⟩,
 ⟨some 10, (.bin .sub), [.t 9, .k (.i .i64 1)], none⟩,
 ⟨some 1, .mv, [.t 10], none⟩])))

def b_spec_l03DrawOk (gq0 : FuncId) : VCode :=
 (.seq
 (.region false [
 ⟨some 4, (.nilsl (.f .f32 [])), [], none⟩])
 (.seq
 (.region false [
 ⟨some 6, (.lit true (.f .f32 [])), [], none⟩,
 ⟨some 5, .mv, [.t 6], none⟩])
 (.seq
 (.block 0 (.loop (b_spec_l03DrawOk_L0 gq0)))
 (.seq
 (.region false [
 ⟨some 19, .mv, [.t 5], none⟩,
 ⟨some 4, .mv, [.t 19], none⟩])
 .ret))))

abbrev Is_spec_l03DrawOk (P : Program) (g_f : FuncId) (gq0 : FuncId) : Prop := FnIs P g_f 20 [.t 4] (b_spec_l03DrawOk gq0)

abbrev C_spec_l03DrawOk (P : Program) (g_f : FuncId) : Prop := ∀ (cs : List Int) (a : Int) (s : Int) (n : Int) (ha : 0 ≤ a ∧ a ≤ 100) (hn : 0 ≤ n ∧ n ≤ 1000) (hc : Byt cs) (hl : cs.length ≤ maxLen), VCall P g_f [SRC HI cs a s, .i .i64 n] ((AV.M (OS 0 .f32 (s3L cs a s n)) [SRC HI cs (a + n.toNat) (sdN cs a s n.toNat), .i .i64 n]))
def oc1_spec_l03DrawOk (as : List AV) : T AV := match as with | [.bx _ [.sl _ _ (.i _ cs), .i _ a, .i _ s], .i .i64 n] => .leaf ((AV.M (OS 0 .f32 (s3L cs a s n)) [SRC HI cs (a + n.toNat) (sdN cs a s n.toNat), .i .i64 n])) | _ => .fail
def oc_spec_l03DrawOk (cs : List Int) (a : Int) (s : Int) (n : Int) (d : Nat) (as : List AV) : T AV := match d with | 13 => oc1_spec_l00Src__pick as | _ => .fail
def h_spec_l03DrawOk_L0 (cs : List Int) (a : Int) (s : Int) (n : Int) (s0 : List Int) (s1 : Int) (s2 : Int) (n2 : Int) (out : List Nat) : Env := [.bx (Tag.own 800000) [.sl Tag.ro 0 (.i .u8 s0), .i .i64 s1, .i .u64 s2], .i .i64 n2, .any, .any, .any, .sl (Tag.own 48) 0 (.f .f32 out)] ++ anys 14

theorem q_spec_l03DrawOk_L0 {VC : FuncId → List AV → AV → Prop} {gq0 : FuncId} (cs : List Int) (a : Int) (s : Int) (n : Int) (s0 : List Int) (s1 : Int) (s2 : Int) (n2 : Int) (out : List Nat) {e_ : Ex} {σ_ : Env} (ht : T.ok (fun x_ => x_ = (e_, σ_)) (
 T.ite (decide (n2 > 0))
 (T.ob
 (VC gq0 [AV.bx (Tag.own 800000) [AV.sl Tag.ro 0 (Cont.i .u8 s0), AV.i .i64 s1, AV.i .u64 s2], AV.i .i64 33]
 (AV.bx Tag.nil
 [AV.i .i64 (pkV s0 s1 s2 33), AV.tup [AV.bx (Tag.own 800000) [AV.sl Tag.ro 0 (Cont.i .u8 s0), AV.i .i64 (pkA s1 33), AV.i .u64 (pkS s0 s1 s2 33)], AV.i .i64 33]]) ∧
 True)
 (T.ob True
 (T.ob True
 (T.ob (List.length out + List.length [fdiv .f32 (fofi .f32 (wrap .i64 (pkV s0 s1 s2 33 - 16))) 1082130432] ≤ 4294967296)
 (T.leaf
 (Ex.normal,
 h_spec_l03DrawOk_L0 cs a s n s0 (pkA s1 33) (pkS s0 s1 s2 33) (wrap .i64 (n2 - 1))
 (out ++ [fdiv .f32 (fofi .f32 (wrap .i64 (pkV s0 s1 s2 33 - 16))) 1082130432])))))))
 (T.leaf (Ex.exit 0, h_spec_l03DrawOk_L0 cs a s n s0 s1 s2 n2 out)))) :
 Exec VC ps_spec_l03DrawOk (b_spec_l03DrawOk_L0 gq0) (h_spec_l03DrawOk_L0 cs a s n s0 s1 s2 n2 out) e_ σ_ := evL_of (lv := lv_spec_l03DrawOk_L0) (rs := [4]) (O := ⟨oc_spec_l03DrawOk cs a s n, fun _ _ => none⟩) (by kernel_rfl) ht

theorem q_spec_l03DrawOk {P : Program} {g_f : FuncId} {gq0 : FuncId} (h_ : Is_spec_l03DrawOk P g_f gq0) (cs : List Int) (a : Int) (s : Int) (n : Int) (ht : T.ok (fun x_ => x_ = (OS 0 .f32 (s3L cs a s n), [SRC HI cs (a + n.toNat) (sdN cs a s n.toNat), .i .i64 n])) (
 T.ob
 (Exec (VCall P) ps_spec_l03DrawOk (VCode.block 0 (VCode.loop (b_spec_l03DrawOk_L0 gq0))) (h_spec_l03DrawOk_L0 cs a s n cs a s n []) Ex.normal
 (h_spec_l03DrawOk_L0 cs a s n cs (a + (↑(Int.toNat n) : Int)) (sdN cs a s (Int.toNat n)) 0 (s3L cs a s n)))
 (T.ob True
 (T.leaf
 (AV.sl (Tag.own 0) 0 (Cont.f .f32 (s3L cs a s n)),
 [AV.bx (Tag.own 800000) [AV.sl Tag.ro 0 (Cont.i .u8 cs), AV.i .i64 (a + (↑(Int.toNat n) : Int)), AV.i .u64 (sdN cs a s (Int.toNat n))], AV.i .i64 n]))))) :
 VCall P g_f [SRC HI cs a s, .i .i64 n] (AV.M (OS 0 .f32 (s3L cs a s n)) [SRC HI cs (a + n.toNat) (sdN cs a s n.toNat), .i .i64 n]) := h_.callM_of ps_spec_l03DrawOk [0] ⟨oc_spec_l03DrawOk cs a s n, fun id σ => match id with | 0 => some (lv_spec_l03DrawOk_L0, .leaf (.normal, h_spec_l03DrawOk_L0 cs a s n cs (a + n.toNat) (sdN cs a s n.toNat) 0 (s3L cs a s n))) | _ => none⟩ (by kernel_rfl) ht

-- END spec_l03DrawOk

-- FN spec_B10List
def ps_spec_B10List : List Nat := [0, 1, 4, 5]
def b_spec_B10List (gq0 gq1 : FuncId) : VCode :=
 (.seq
 (.region false [
 ⟨some 4, (.nilsl (.f .f32 [])), [], none⟩])
 (.seq
 (.region false [
 ⟨some 6, .mv, [.t 0], none⟩,
 ⟨some 7, (.call gq0), [.t 6], none⟩,
 ⟨some 5, .mv, [.t 7], none⟩])
 (.seq
 (.region false [
 ⟨some 8, .mv, [.t 5], none⟩,
 ⟨some 9, .mv, [.t 1], none⟩,
 ⟨some 10, (.call gq1), [.t 8, .t 9], none⟩,
 ⟨some 4, .mv, [.t 10], none⟩])
 .ret)))

abbrev Is_spec_B10List (P : Program) (g_f : FuncId) (gq0 gq1 : FuncId) : Prop := FnIs P g_f 11 [.t 4] (b_spec_B10List gq0 gq1)

abbrev C_spec_B10List (P : Program) (g_f : FuncId) : Prop := ∀ (cs : List Int) (n : Int) (hn : 0 ≤ n ∧ n ≤ 1000) (hc : Byt cs) (hl : cs.length ≤ maxLen), VCall P g_f [PU [0] cs, .i .i64 n] (OS 0 .f32 (s3L cs 0 0 n))
def oc_spec_B10List (cs : List Int) (n : Int) (d : Nat) (as : List AV) : T AV := match d with | 7 => oc1_spec_l00From as | 10 => oc1_spec_l03DrawOk as | _ => .fail



theorem q_spec_B10List {P : Program} {g_f : FuncId} {gq0 gq1 : FuncId} (h_ : Is_spec_B10List P g_f gq0 gq1) (cs : List Int) (n : Int) (ht : T.ok (fun x_ => x_ = OS 0 .f32 (s3L cs 0 0 n)) (
 T.ob ((VCall P) gq0 [AV.sl (Tag.par [0]) 0 (Cont.i .u8 cs)] (AV.bx (Tag.own 0) [AV.sl (Tag.par [0]) 0 (Cont.i .u8 cs), AV.i .i64 0, AV.i .u64 0]))
 (T.ob
 ((VCall P) gq1 [AV.bx (Tag.own 800000) [AV.sl Tag.ro 0 (Cont.i .u8 cs), AV.i .i64 0, AV.i .u64 0], AV.i .i64 n]
 (AV.bx Tag.nil
 [AV.sl (Tag.own 0) 0 (Cont.f .f32 (s3L cs 0 0 n)),
 AV.tup [AV.bx (Tag.own 800000) [AV.sl Tag.ro 0 (Cont.i .u8 cs), AV.i .i64 (0 + (↑(Int.toNat n) : Int)), AV.i .u64 (sdN cs 0 0 (Int.toNat n))], AV.i .i64 n]]) ∧
 True)
 (T.leaf (AV.sl (Tag.own 0) 0 (Cont.f .f32 (s3L cs 0 0 n))))))) :
 VCall P g_f [PU [0] cs, .i .i64 n] (OS 0 .f32 (s3L cs 0 0 n)) := h_.call_of ps_spec_B10List ⟨oc_spec_B10List cs n, fun _ _ => none⟩ (by kernel_rfl) ht

-- END spec_B10List

theorem k_spec_l00From {P : Program} {f : FuncId} (h : Is_spec_l00From P f) : C_spec_l00From P f := by
  intro cs
  refine q_spec_l00From h cs ?_
  repeat' (first | with_reducible refine T.ok_ob ?_ (fun _ => ?_) | with_reducible refine T.ok_ite (fun _ => ?_) (fun _ => ?_) | with_reducible refine T.ok_leaf ?_)
  all_goals first | with_reducible rfl | with_reducible assumption | contradiction | exact fconvOk_32_64 _ | assumption | exact rfl | (simp_all []; done) | (simp_all [T.ok]; omega)

theorem and_255 (x : Int) : 0 ≤ ibits .and .u64 x 255 ∧ ibits .and .u64 x 255 ≤ 255 := by
  have h1 : ((BitVec.ofInt 64 x &&& BitVec.ofInt 64 255).toNat) ≤ 255 := by
    rw [BitVec.toNat_and]
    exact Nat.le_trans Nat.and_le_right (by decide)
  have e : ibits .and .u64 x 255 = ((BitVec.ofInt 64 x &&& BitVec.ofInt 64 255).toNat : Int) := by
    unfold ibits
    simp only
    have : ∀ m : Nat, m ≤ 255 → IntKind.wrap .u64 (m : Int) = m := by
      intro m hm
      unfold IntKind.wrap
      simp [IntKind.bits]
      omega
    exact this _ h1
  rw [e]; omega
theorem srV_le {cs : List Int} (hc : Byt cs) (a s : Int) : 0 ≤ srV cs a s ∧ srV cs a s ≤ 255 := by
  unfold srV
  split
  · exact hc _
  · exact and_255 _
theorem k_spec_l00Src__next {P : Program} {f : FuncId} (h : Is_spec_l00Src__next P f) : C_spec_l00Src__next P f := by
  intro cs a s ha hc hl
  have hb := hc a.toNat
  have hm : cs.length ≤ 9223372036854775807 := hl
  have hw : IntKind.wrap .i64 (a + 1) = a + 1 := wrap64_id (by omega) (by omega)
  have e1 : IntKind.wrap .i64 (cs.getD a.toNat 0) = cs.getD a.toNat 0 := wrap64_id (by omega) (by omega)
  have e2 : (2 : Int) ^ 40 = 1099511627776 := by decide
  refine q_spec_l00Src__next h cs a s ?_
  rw [hw, e1]
  rcases Int.lt_or_le a cs.length with hlt | hge
  · have e3 : srB cs a = cs.getD a.toNat 0 := if_pos hlt
    have e4 : srV cs a s = cs.getD a.toNat 0 := if_pos hlt
    unfold srS
    rw [e3, e4]
    repeat' (first | with_reducible refine T.ok_ob ?_ (fun _ => ?_) | with_reducible refine T.ok_ite (fun _ => ?_) (fun _ => ?_) | with_reducible refine T.ok_leaf ?_)
    all_goals (try simp only [decide_eq_true_eq, decide_eq_false_iff_not, Bool.not_eq_true', Bool.not_eq_false', Bool.not_eq_eq_eq_not, Bool.not_true, Bool.not_false, Int.toNat_natCast, tab_len, List.length_append, List.length_singleton, List.length_cons, List.length_nil, List.length_drop, List.length_take, getD_drop', getD_nat, reduceCtorEq] at *)
    all_goals (try simp (disch := omega) only [wrap64_id] at *)
    all_goals first | omega | (exfalso; omega) | exact True.intro | skip
    all_goals first | rfl | omega
  · have e3 : srB cs a = 0 := if_neg (by omega)
    have e4 : srV cs a s = ibits .and .u64 ((srS cs a s).fdiv 1099511627776) 255 := by rw [← e2]; exact if_neg (by omega)
    have e5 : IntKind.wrap .u64 0 = 0 := rfl
    have hb := and_255 ((srS cs a s).fdiv 1099511627776)
    have e6 : IntKind.wrap .i64 (ibits .and .u64 ((srS cs a s).fdiv 1099511627776) 255) = ibits .and .u64 ((srS cs a s).fdiv 1099511627776) 255 := wrap64_id (by omega) (by omega)
    have e7 : srS cs a s = IntKind.wrap .u64 (IntKind.wrap .u64 (IntKind.wrap .u64 (s * 6364136223846793005) + 0) + 1442695040888963407) := by unfold srS; rw [e3, e5]
    rw [← e7, e4, e6]
    repeat' (first | with_reducible refine T.ok_ob ?_ (fun _ => ?_) | with_reducible refine T.ok_ite (fun _ => ?_) (fun _ => ?_) | with_reducible refine T.ok_leaf ?_)
    all_goals (try simp only [decide_eq_true_eq, decide_eq_false_iff_not, Bool.not_eq_true', Bool.not_eq_false', Bool.not_eq_eq_eq_not, Bool.not_true, Bool.not_false, Int.toNat_natCast, tab_len, List.length_append, List.length_singleton, List.length_cons, List.length_nil, List.length_drop, List.length_take, getD_drop', getD_nat, reduceCtorEq] at *)
    all_goals (try simp (disch := omega) only [wrap64_id] at *)
    all_goals first | omega | (exfalso; omega) | exact True.intro | skip
    all_goals first | rfl | omega
theorem k_spec_l00Src__pick {P : Program} {f g : FuncId} (h : Is_spec_l00Src__pick P f g) (c1 : C_spec_l00Src__next P g) : C_spec_l00Src__pick P f := by
  intro cs a s n ha hc hl
  have h1 := srV_le hc a s
  have h2 := srV_le hc (a + 1) (srS cs a s)
  have a1 := c1 cs a s (by omega) hc hl
  have a2 := c1 cs (a + 1) (srS cs a s) (by omega) hc hl
  have e1 : IntKind.wrap .i64 (srV cs a s * 256) = srV cs a s * 256 := wrap64_id (by omega) (by omega)
  have e2 : IntKind.wrap .i64 (srV cs a s * 256 + srV cs (a + 1) (srS cs a s)) = srV cs a s * 256 + srV cs (a + 1) (srS cs a s) := wrap64_id (by omega) (by omega)
  refine q_spec_l00Src__pick h cs a s n ?_
  rw [e1, e2]
  unfold pkV pkA pkS
  refine ⟨fun c => ?_, fun c => ⟨⟨a1, trivial⟩, fun _ => ⟨fun d => ⟨⟨a2, trivial⟩, fun _ => ⟨?_, fun _ => ⟨trivial, fun _ => ?_⟩⟩⟩, fun d => ⟨?_, fun _ => ⟨trivial, fun _ => ?_⟩⟩⟩⟩⟩
  · have c := of_decide_eq_true c
    refine ⟨trivial, fun _ => ?_⟩
    show _ = _
    simp only [c, if_true]
  · have c := of_decide_eq_false c; omega
  · have c := of_decide_eq_false c
    have d := of_decide_eq_true d
    have d' : ¬ n ≤ 200 := by omega
    show _ = _
    simp only [c, d', if_false]
    rw [show a + 2 = a + 1 + 1 by omega]
  · have c := of_decide_eq_false c; omega
  · have c := of_decide_eq_false c
    have d := of_decide_eq_false d
    have d' : n ≤ 200 := by omega
    show _ = _
    simp only [c, d', if_false, if_true]
theorem pk_one {cs : List Int} {a s n : Int} (h : 1 < n ∧ n ≤ 200) : pkV cs a s n = (srV cs a s).tmod n ∧ pkA a n = a + 1 ∧ pkS cs a s n = srS cs a s := by
  have h1 : ¬ n ≤ 1 := by omega
  simp [pkV, pkA, pkS, h1, h.2]
theorem tmod_byte {x n : Int} (hx : 0 ≤ x) (hn : 0 < n) : 0 ≤ x.tmod n ∧ x.tmod n < n := by
  rw [Int.tmod_eq_emod_of_nonneg hx]
  exact ⟨Int.emod_nonneg _ (by omega), Int.emod_lt_of_pos _ hn⟩
theorem k_spec_l03DrawOk {P : Program} {f g : FuncId} (h : Is_spec_l03DrawOk P f g) (c1 : C_spec_l00Src__pick P g) : C_spec_l03DrawOk P f := by
  intro cs a s n ha hn hc hl
  refine q_spec_l03DrawOk h cs a s n ⟨?_, fun _ => ⟨trivial, fun _ => ?_⟩⟩
  · refine for_up (e := .exit 0) n.toNat (fun i => h_spec_l03DrawOk_L0 cs a s n cs (a + i) (sdN cs a s i) (n - i) (tab i fun j => s3F ((vlN cs a s j).tmod 33))) (by simp [sdN]; try rfl) (fun i hi => ?_) ?_
    · have hp := c1 cs (a + i) (sdN cs a s i) 33 (by omega) hc hl
      obtain ⟨p1, p2, p3⟩ := pk_one (cs := cs) (a := a + i) (s := sdN cs a s i) (n := 33) (by omega)
      have hb := srV_le hc (a + i) (sdN cs a s i)
      have ht := tmod_byte (n := 33) hb.1 (by omega)
      rw [p1, p2, p3] at hp
      refine q_spec_l03DrawOk_L0 _ _ _ _ _ _ _ _ _ ?_
      rw [p1, p2, p3]
      have e1 : IntKind.wrap .i64 ((srV cs (a + i) (sdN cs a s i)).tmod 33 - 16) = (srV cs (a + i) (sdN cs a s i)).tmod 33 - 16 := wrap64_id (by omega) (by omega)
      rw [e1]
      repeat' (first | with_reducible refine T.ok_ob ?_ (fun _ => ?_) | with_reducible refine T.ok_ite (fun _ => ?_) (fun _ => ?_) | with_reducible refine T.ok_leaf ?_)
      all_goals (try simp only [decide_eq_true_eq, decide_eq_false_iff_not, Bool.not_eq_true', Bool.not_eq_false', Bool.not_eq_eq_eq_not, Bool.not_true, Bool.not_false, Int.toNat_natCast, tab_len, List.length_append, List.length_singleton, List.length_cons, List.length_nil, List.length_drop, List.length_take, getD_drop', getD_nat, reduceCtorEq] at *)
      all_goals (try simp (disch := omega) only [wrap64_id] at *)
      all_goals first | omega | (exfalso; omega) | exact True.intro | skip
      all_goals first | exact ⟨hp, trivial⟩ | (rw [tab_succ, show a + (i : Int) + 1 = a + (i + 1 : Nat) by omega, show n - (i : Int) - 1 = n - (i + 1 : Nat) by omega]; rfl) | skip
    · refine q_spec_l03DrawOk_L0 _ _ _ _ _ _ _ _ _ ?_
      have e : n - (n.toNat : Int) = 0 := by omega
      rw [e]
      repeat' (first | with_reducible refine T.ok_ob ?_ (fun _ => ?_) | with_reducible refine T.ok_ite (fun _ => ?_) (fun _ => ?_) | with_reducible refine T.ok_leaf ?_)
      all_goals (try simp only [decide_eq_true_eq, decide_eq_false_iff_not, Bool.not_eq_true', Bool.not_eq_false', Bool.not_eq_eq_eq_not, Bool.not_true, Bool.not_false, Int.toNat_natCast, tab_len, List.length_append, List.length_singleton, List.length_cons, List.length_nil, List.length_drop, List.length_take, getD_drop', getD_nat, reduceCtorEq] at *)
      all_goals (try simp (disch := omega) only [wrap64_id] at *)
      all_goals first | omega | (exfalso; omega) | exact True.intro | skip
      all_goals rfl
  · rfl
theorem k_spec_B10List {P : Program} {f g1 g2 : FuncId} (h : Is_spec_B10List P f g1 g2) (c1 : C_spec_l00From P g1) (c2 : C_spec_l03DrawOk P g2) : C_spec_B10List P f := by
  intro cs n hn hc hl
  exact q_spec_B10List h cs n ⟨c1 cs, fun _ => ⟨⟨c2 cs 0 0 n (by omega) hn hc hl, trivial⟩, fun _ => rfl⟩⟩

end Go.Proofs.LV

namespace Go.Proofs.LV
open Go
set_option linter.unusedVariables false
set_option linter.unusedSimpArgs false

-- FN slices_Clone___float32_float32_
def ps_slices_Clone___float32_float32_ : List Nat := [0, 2, 4]
def b_slices_Clone___float32_float32_ : VCode :=
 (.seq
 (.region false [
 ⟨some 2, (.nilsl (.f .f32 [])), [], none⟩])
 (.seq
 (.seq
 (.region false [
 ⟨some 3, .mv, [.t 0], none⟩,
 ⟨some 4, .isnil, [.t 3], none⟩])
 (.cond (.t 4)
 (.seq
 (.region false [
 ⟨some 2, (.nilsl (.f .f32 [])), [], none⟩])
 .ret)
 .skip))
 (.seq
 (.region false [
 ⟨some 5, (.nilsl (.f .f32 [])), [], none⟩,
 ⟨some 6, .mv, [.t 0], none⟩,
 ⟨some 7, .arr, [.t 5, .t 6], none⟩,
 ⟨some 2, .mv, [.t 7], none⟩])
 .ret)))

abbrev Is_slices_Clone___float32_float32_ (P : Program) (g_f : FuncId) : Prop := FnIs P g_f 8 [.t 2] (b_slices_Clone___float32_float32_)

abbrev C_slices_Clone___float32_float32_ (P : Program) (g_f : FuncId) : Prop := ∀ (xs : List Nat) (hn : 1 ≤ xs.length) (hx : xs.length ≤ 5000), VCall P g_f [PS [0] .f32 xs] (OS 0 .f32 xs)
def oc1_slices_Clone___float32_float32_ (as : List AV) : T AV := match as with | [.sl _ _ (.f .f32 xs)] => .leaf (OS 0 .f32 xs) | _ => .fail



theorem q_slices_Clone___float32_float32_ {P : Program} {g_f : FuncId} (h_ : Is_slices_Clone___float32_float32_ P g_f) (xs : List Nat) (ht : T.ok (fun x_ => x_ = OS 0 .f32 xs) (
 T.ob (1 ≤ List.length xs) (T.ite false (T.leaf (AV.sl (Tag.own 0) 0 (Cont.f .f32 []))) (T.ob (List.length xs ≤ 4294967296) (T.leaf (AV.sl (Tag.own 0) 0 (Cont.f .f32 xs))))))) :
 VCall P g_f [PS [0] .f32 xs] (OS 0 .f32 xs) := h_.call_of ps_slices_Clone___float32_float32_ ⟨fun _ _ => .fail, fun _ _ => none⟩ (by kernel_rfl) ht

-- END slices_Clone___float32_float32_

theorem k_slices_Clone___float32_float32_ {P : Program} {f : FuncId} (h : Is_slices_Clone___float32_float32_ P f) : C_slices_Clone___float32_float32_ P f := by
  intro xs hn hx
  refine q_slices_Clone___float32_float32_ h xs ?_
  repeat' (first | with_reducible refine T.ok_ob ?_ (fun _ => ?_) | with_reducible refine T.ok_ite (fun _ => ?_) (fun _ => ?_) | with_reducible refine T.ok_leaf ?_)
  all_goals first | with_reducible rfl | with_reducible assumption | contradiction | exact fconvOk_32_64 _ | assumption | exact rfl | (simp_all []; done) | (simp_all [T.ok]; omega)

/-! ### what is left of a likeness -/
end Go.Proofs.LV

namespace Go.Proofs.LV
open Go
set_option linter.unusedVariables false
set_option linter.unusedSimpArgs false

end Go.Proofs.LV

namespace Go.Proofs.LV
open Go
set_option linter.unusedVariables false
set_option linter.unusedSimpArgs false

def ssE (l s : Nat) (xs : List Nat) (t : Int) (d x : Nat) : Nat := fsub .f32 x (guessM l s xs t d)
def ssL (l s : Nat) (xs : List Nat) (t : Int) (a b c d x : Nat) : Nat := fadd .f32 (fadd .f32 l (fmul .f32 d s)) (fmul .f32 a (ssE l s xs t d x))
def ssS (l s : Nat) (xs : List Nat) (t : Int) (a b c d x : Nat) : Nat := fadd .f32 (fmul .f32 d s) (fmul .f32 (fmul .f32 a b) (ssE l s xs t d x))
def ssX (l s : Nat) (xs : List Nat) (t : Int) (a b c d x : Nat) : List Nat := xs.set t.toNat (fadd .f32 (xs.getD t.toNat 0) (fmul .f32 (fmul .f32 c (fsub .f32 1065353216 a)) (ssE l s xs t d x)))
def ssT (xs : List Nat) (t : Int) : Int := Int.tmod (IntKind.wrap .i64 (t + 1)) xs.length
end Go.Proofs.LV

namespace Go.Proofs.LV
open Go
set_option linter.unusedVariables false
set_option linter.unusedSimpArgs false

structure SSt where
  l : Nat
  s : Nat
  xs : List Nat
  t : Int
def SSt.next (q : SSt) (a b c d x : Nat) : SSt := ⟨ssL q.l q.s q.xs q.t a b c d x, ssS q.l q.s q.xs q.t a b c d x, ssX q.l q.s q.xs q.t a b c d x, ssT q.xs q.t⟩
theorem for_oneS {VC : FuncId → List AV → AV → Prop} {ps : List Nat} {id : Nat} {b : VCode} {e e' : Ex} {σ0 σ1 : Env} (c : Nat → Bool) (m : Nat) (st : Nat → Env) (ha : allN m c = false) (h0 : σ0 = st 0)
    (h : ∀ i, i < m → (∀ j, j < i → c j = true) → c i = true → Exec VC ps b (st i) .normal (st (i + 1))) (he : ∀ i, i < m → (∀ j, j < i → c j = true) → c i = false → Exec VC ps b (st i) e σ1) (hne : e ≠ .normal := by simp) (hx : e.inBlock id = e' := by rfl) : Exec VC ps (.block id (.loop b)) σ0 e' σ1 := by
  obtain ⟨i, hi, h2, h3⟩ := allN_not ha
  exact for_up i st h0 (fun j hj => h j (by omega) (fun k hk => h3 k (by omega)) (h3 j hj)) (he i hi h3 h2) hne hx
section
variable {P : Program}
end

end Go.Proofs.LV

namespace Go.Proofs.LV
open Go
set_option linter.unusedVariables false
set_option linter.unusedSimpArgs false

abbrev NW (n : Nat) (xss : LL) : AV := .nw n 0 .f32 xss none
theorem row_mem (xss : LL) (i : Nat) (h : i < xss.length) : xss.getD i [] ∈ xss := by
  simp [List.getD, h]
end Go.Proofs.LV
