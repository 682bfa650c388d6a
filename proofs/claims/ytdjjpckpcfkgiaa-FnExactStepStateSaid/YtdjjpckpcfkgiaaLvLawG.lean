/- The law FnExactStartState. -/
import Derived.Test.YtdjjpckpcfkgiaaLvFnL
import Derived.Test.YtdjjpckpcfkgiaaLvLawF
namespace Go.Proofs.LV
open Go
set_option linter.unusedVariables false
set_option linter.unusedSimpArgs false

-- FN laws_heldState
/-- laws.heldState: slots 12, results [.t 4]; calls [8:g_laws_heldFloat32S]; names [(a, 0), (k, 1), (a, 2), (k, 3)] -/
def ps_laws_heldState : List Nat := [0, 1, 2, 4, 10]
def b_laws_heldState (g_laws_heldFloat32S : FuncId) : VCode :=
  (.seq
   (.region false [
    ⟨some 2, .boxN, [.t 0], none⟩,
    ⟨some 4, .mv, [.k (.i .i64 0)], none⟩])
   (.seq
    (.region false [
     ⟨some 5, (.faddr 2), [.t 2], none⟩,
     ⟨some 6, .load, [.t 5], none⟩,
     ⟨some 7, .mv, [.t 1], none⟩,
     ⟨some 8, (.call g_laws_heldFloat32S), [.t 6, .t 7], none⟩,
     ⟨some 1, .mv, [.t 8], none⟩])
    (.seq
     (.seq
      (.region false [
       ⟨some 9, .mv, [.t 1], none⟩,
       ⟨some 10, (.bin .lss), [.t 9, .k (.i .i64 0)], none⟩])
      (.cond (.t 10)
       (.seq
        (.region false [
         ⟨some 4, .mv, [.k (.i .i64 (-1))], none⟩])
        .ret)
       .skip))
     (.seq
      (.region false [
       ⟨some 11, .mv, [.t 1], none⟩,
       ⟨some 4, .mv, [.t 11], none⟩])
      .ret))))

abbrev Is_laws_heldState (P : Program) (g_f : FuncId) (g_laws_heldFloat32S : FuncId) : Prop := FnIs P g_f 12 [.t 4] (b_laws_heldState g_laws_heldFloat32S)

abbrev C_laws_heldState (P : Program) (g_f : FuncId) : Prop := ∀ (l : Nat) (s : Nat) (xs : List Nat) (t : Int) (k : Int) (n : Nat) (he : xs = marksM n k) (hk : 0 ≤ k ∧ k ≤ 4294967296) (hn : n ≤ 4294967296), VCall P g_f [.agg (ST (.par [0, 2]) l s xs t), .i .i64 k] (.i .i64 (k + xs.length))
def oc1_laws_heldState (as : List AV) : T AV := match as with | [.agg [.f _ l, .f _ s, .sl _ _ (.f _ xs), .i _ t], .i .i64 k] => .leaf (.i .i64 (k + xs.length)) | _ => .fail
def oc_laws_heldState (l : Nat) (s : Nat) (xs : List Nat) (t : Int) (k : Int) (n : Nat) (d : Nat) (as : List AV) : T AV := match d with | 8 => oc1_laws_heldFloat32S as | _ => .fail



theorem q_laws_heldState {P : Program} {g_f : FuncId} {g_laws_heldFloat32S : FuncId} (h_ : Is_laws_heldState P g_f g_laws_heldFloat32S) (l : Nat) (s : Nat) (xs : List Nat) (t : Int) (k : Int) (n : Nat) (ht : T.ok (fun x_ => x_ = .i .i64 (k + xs.length)) (
      T.ob (false = false)
        (T.ob ((VCall P) g_laws_heldFloat32S [AV.sl (Tag.par [0]) 0 (Cont.f FloatKind.f32 xs), AV.i IntKind.i64 k] (AV.i IntKind.i64 (k + (↑(List.length xs) : Int))))
          (T.ite (decide (k + (↑(List.length xs) : Int) < 0)) (T.leaf (AV.i IntKind.i64 (-1))) (T.leaf (AV.i IntKind.i64 (k + (↑(List.length xs) : Int)))))))) :
    VCall P g_f [.agg (ST (.par [0, 2]) l s xs t), .i .i64 k] (.i .i64 (k + xs.length)) := h_.call_of ps_laws_heldState ⟨oc_laws_heldState l s xs t k n, fun _ _ => none⟩ (by kernel_rfl) ht

-- END laws_heldState


theorem k_laws_heldState {P : Program} {f g : FuncId} (h : Is_laws_heldState P f g) (c1 : C_laws_heldFloat32S P g) : C_laws_heldState P f := by
  rintro l s xs t k n rfl hk hn
  have ml := marks_len n k
  refine q_laws_heldState h l s _ t k n ?_
  repeat' (first | with_reducible refine T.ok_ob ?_ (fun _ => ?_) | with_reducible refine T.ok_ite (fun _ => ?_) (fun _ => ?_) | with_reducible refine T.ok_leaf ?_)
  all_goals first | with_reducible rfl | exact c1 _ _ n rfl hk hn | (exfalso; rename_i hc; revert hc; simp [ml]; omega) | rfl

end Go.Proofs.LV
