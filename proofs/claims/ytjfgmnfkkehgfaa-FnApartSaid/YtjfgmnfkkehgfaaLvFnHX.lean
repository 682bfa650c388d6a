/- Texts that belong together. -/
import Derived.Test.YtjfgmnfkkehgfaaLvFnCX
namespace Go.Proofs.LV
open Go
set_option linter.unusedVariables false
set_option linter.unusedSimpArgs false

def one (b : Bool) : Int := if b = true then 1 else 0
end Go.Proofs.LV

namespace Go.Proofs.LV
open Go
set_option linter.unusedVariables false
set_option linter.unusedSimpArgs false

abbrev PU (p : List Nat) (xs : List Int) : AV := .sl (.par p) 0 (.i .u8 xs)
/-- bytes -/
def Byt (xs : List Int) : Prop := ∀ i, 0 ≤ xs.getD i 0 ∧ xs.getD i 0 ≤ 255

-- FN laws_r8Long
/-- laws.r8Long: slots 13, results [.t 4]; calls []; names [(code, 0), (more, 1), (code, 2), (more, 3)] -/
def ps_laws_r8Long : List Nat := [0, 1, 4]
def b_laws_r8Long : VCode :=
  (.seq
   (.region false [
    ⟨some 4, .mv, [.k (.b false)], none⟩])
   (.seq
    (.region false [
     ⟨some 5, .mv, [.t 0], none⟩,
     ⟨some 6, .len, [.t 5], none⟩,
     ⟨some 7, (.bin .gtr), [.t 6, .k (.i .i64 48)], none⟩,
     ⟨some 8, .mv, [.t 7], none⟩,
     ⟨some 9, .mv, [.t 1], some (8, false)⟩,
     ⟨some 10, .len, [.t 9], some (8, false)⟩,
     ⟨some 11, (.bin .gtr), [.t 10, .k (.i .i64 48)], some (8, false)⟩,
     ⟨some 12, .pick, [.t 8, .k (.b true), .t 11], none⟩,
     ⟨some 4, .mv, [.t 12], none⟩])
    .ret))

abbrev Is_laws_r8Long (P : Program) (g_f : FuncId) : Prop := FnIs P g_f 13 [.t 4] (b_laws_r8Long)

abbrev C_laws_r8Long (P : Program) (g_f : FuncId) : Prop := ∀ (cs : List Int) (ms : List Int), VCall P g_f [PU [0] cs, PU [1] ms] (.b (decide ((cs.length : Int) > 48) || decide ((ms.length : Int) > 48)))
def oc1_laws_r8Long (as : List AV) : T AV := match as with | [.sl _ _ (.i _ cs), .sl _ _ (.i _ ms)] => .leaf (.b (decide ((cs.length : Int) > 48) || decide ((ms.length : Int) > 48))) | _ => .fail



theorem q_laws_r8Long {P : Program} {g_f : FuncId} (h_ : Is_laws_r8Long P g_f) (cs : List Int) (ms : List Int) (ht : T.ok (fun x_ => x_ = .b (decide ((cs.length : Int) > 48) || decide ((ms.length : Int) > 48))) (
      T.ite (decide ((↑(List.length cs) : Int) > 48)) (T.leaf (AV.b true)) (T.leaf (AV.b (decide ((↑(List.length ms) : Int) > 48)))))) :
    VCall P g_f [PU [0] cs, PU [1] ms] (.b (decide ((cs.length : Int) > 48) || decide ((ms.length : Int) > 48))) := h_.call_of ps_laws_r8Long ⟨fun _ _ => .fail, fun _ _ => none⟩ (by kernel_rfl) ht

-- END laws_r8Long

def atM (cs : List Int) (k n : Int) : Int := if n ≤ 1 ∨ (cs.length : Int) ≤ k then 0 else (cs.getD k.toNat 0).tmod n
-- FN laws_r8At
/-- laws.r8At: slots 22, results [.t 6]; calls []; names [(code, 0), (k, 1), (n, 2), (code, 3), (k, 4), (n, 5)] -/
def ps_laws_r8At : List Nat := [0, 1, 2, 6, 14]
def b_laws_r8At : VCode :=
  (.seq
   (.region false [
    ⟨some 6, .mv, [.k (.i .i64 0)], none⟩])
   (.seq
    (.seq
     (.region false [
      ⟨some 7, .mv, [.t 2], none⟩,
      ⟨some 8, (.bin .leq), [.t 7, .k (.i .i64 1)], none⟩,
      ⟨some 9, .mv, [.t 8], none⟩,
      ⟨some 10, .mv, [.t 1], some (9, false)⟩,
      ⟨some 11, .mv, [.t 0], some (9, false)⟩,
      ⟨some 12, .len, [.t 11], some (9, false)⟩,
      ⟨some 13, (.bin .geq), [.t 10, .t 12], some (9, false)⟩,
      ⟨some 14, .pick, [.t 9, .k (.b true), .t 13], none⟩])
     (.cond (.t 14)
      (.seq
       (.region false [
        ⟨some 6, .mv, [.k (.i .i64 0)], none⟩])
       .ret)
      .skip))
    (.seq
     (.region false [
      ⟨some 15, .mv, [.t 0], none⟩,
      ⟨some 16, .mv, [.t 1], none⟩,
      ⟨some 17, .iaddr, [.t 15, .t 16], none⟩,
      ⟨some 18, .load, [.t 17], none⟩,
      ⟨some 19, (.convI .i64), [.t 18], none⟩,
      ⟨some 20, .mv, [.t 2], none⟩,
      ⟨some 21, (.bin .rem), [.t 19, .t 20], none⟩,
      ⟨some 6, .mv, [.t 21], none⟩])
     .ret)))

abbrev Is_laws_r8At (P : Program) (g_f : FuncId) : Prop := FnIs P g_f 22 [.t 6] (b_laws_r8At)

abbrev C_laws_r8At (P : Program) (g_f : FuncId) : Prop := ∀ (cs : List Int) (k : Int) (n : Int) (hk : 0 ≤ k) (hc : Byt cs), VCall P g_f [PU [0] cs, .i .i64 k, .i .i64 n] (.i .i64 (atM cs k n))
def oc1_laws_r8At (as : List AV) : T AV := match as with | [.sl _ _ (.i _ cs), .i .i64 k, .i .i64 n] => .leaf (.i .i64 (atM cs k n)) | _ => .fail



theorem q_laws_r8At {P : Program} {g_f : FuncId} (h_ : Is_laws_r8At P g_f) (cs : List Int) (k : Int) (n : Int) (ht : T.ok (fun x_ => x_ = .i .i64 (atM cs k n)) (
      T.ite (decide (n ≤ 1)) (T.leaf (AV.i IntKind.i64 0))
        (T.ite (decide (k ≥ (↑(List.length cs) : Int))) (T.leaf (AV.i IntKind.i64 0))
          (T.ob (0 ≤ k ∧ k < (↑(List.length cs) : Int)) (T.ob True (T.ob (n ≠ 0) (T.leaf (AV.i IntKind.i64 (Int.tmod (IntKind.wrap IntKind.i64 (List.getD cs (Int.toNat k) 0)) n))))))))) :
    VCall P g_f [PU [0] cs, .i .i64 k, .i .i64 n] (.i .i64 (atM cs k n)) := h_.call_of ps_laws_r8At ⟨fun _ _ => .fail, fun _ _ => none⟩ (by kernel_rfl) ht

-- END laws_r8At




theorem k_laws_r8Long {P : Program} {f : FuncId} (h : Is_laws_r8Long P f) : C_laws_r8Long P f := by
  intro cs ms
  refine q_laws_r8Long h cs ms ?_
  repeat' (first | with_reducible refine T.ok_ob ?_ (fun _ => ?_) | with_reducible refine T.ok_ite (fun _ => ?_) (fun _ => ?_) | with_reducible refine T.ok_leaf ?_)
  all_goals first | with_reducible rfl | with_reducible assumption | contradiction | exact fconvOk_32_64 _ | assumption | exact rfl | (simp_all []; done) | (simp_all [T.ok]; omega)

theorem k_laws_r8At {P : Program} {f : FuncId} (h : Is_laws_r8At P f) : C_laws_r8At P f := by
  intro cs k n hk hc
  refine q_laws_r8At h cs k n ?_
  have hb := hc k.toNat
  unfold atM
  repeat' (first | with_reducible refine T.ok_ob ?_ (fun _ => ?_) | with_reducible refine T.ok_ite (fun _ => ?_) (fun _ => ?_) | with_reducible refine T.ok_leaf ?_)
  all_goals (try simp only [decide_eq_true_eq, decide_eq_false_iff_not, Bool.not_eq_true', Bool.not_eq_false', Bool.not_eq_eq_eq_not, Bool.not_true, Bool.not_false, Int.toNat_natCast, tab_len, List.length_append, List.length_singleton, List.length_cons, List.length_nil, List.length_drop, List.length_take, getD_drop', getD_nat, reduceCtorEq] at *)
  all_goals (try simp (disch := omega) only [wrap64_id] at *)
  all_goals first | omega | (exfalso; omega) | exact True.intro | skip
  all_goals first | (rw [if_pos (by omega)]; done) | (rw [if_neg (by omega)])
end Go.Proofs.LV
