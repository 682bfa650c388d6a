/- The laws FnExactSelfLikes, AheadOf, LikeSum. -/
import Derived.Test.YtdjjpckpcfkgiaaLvFnJ
import Derived.Test.YtdjjpckpcfkgiaaLvLawB
namespace Go.Proofs.LV
open Go
set_option linter.unusedVariables false
set_option linter.unusedSimpArgs false

-- FN laws_markState
/-- laws.markState: slots 10, results [.t 4]; calls [8:g_laws_markFloat32S]; names [(a, 0), (k, 1), (a, 2), (k, 3)] -/
def ps_laws_markState : List Nat := [0, 1, 2, 4, 6]
def b_laws_markState (g_laws_markFloat32S : FuncId) : VCode :=
  (.seq
   (.region false [
    ⟨some 2, .boxN, [.t 0], none⟩,
    ⟨some 4, .mv, [.k (.i .i64 0)], none⟩])
   (.seq
    (.region false [
     ⟨some 5, (.faddr 2), [.t 2], none⟩,
     ⟨some 6, .load, [.t 5], none⟩,
     ⟨some 7, .mv, [.t 1], none⟩,
     ⟨some 8, (.call g_laws_markFloat32S), [.t 6, .t 7], none⟩,
     ⟨some 1, .mv, [.t 8], none⟩])
    (.seq
     (.region false [
      ⟨some 9, .mv, [.t 1], none⟩,
      ⟨some 4, .mv, [.t 9], none⟩])
     .ret)))

abbrev Is_laws_markState (P : Program) (g_f : FuncId) (g_laws_markFloat32S : FuncId) : Prop := FnIs P g_f 10 [.t 4] (b_laws_markState g_laws_markFloat32S)

abbrev C_laws_markState (P : Program) (g_f : FuncId) : Prop := ∀ (l : Nat) (s : Nat) (xs : List Nat) (t : Int) (k : Int) (hk : 0 ≤ k ∧ k ≤ 4294967296) (hx : xs.length ≤ 4294967296), VCall P g_f [.agg (ST (.own HI) l s xs t), .i .i64 k] ((AV.M (.i .i64 (k + xs.length)) [.agg (ST (.own HI) l s (marksM xs.length k) t), .i .i64 k]))
def oc1_laws_markState (as : List AV) : T AV := match as with | [.agg [.f _ l, .f _ s, .sl _ _ (.f _ xs), .i _ t], .i .i64 k] => .leaf ((AV.M (.i .i64 (k + xs.length)) [.agg (ST (.own HI) l s (marksM xs.length k) t), .i .i64 k])) | _ => .fail
def oc_laws_markState (l : Nat) (s : Nat) (xs : List Nat) (t : Int) (k : Int) (d : Nat) (as : List AV) : T AV := match d with | 8 => oc1_laws_markFloat32S as | _ => .fail



theorem q_laws_markState {P : Program} {g_f : FuncId} {g_laws_markFloat32S : FuncId} (h_ : Is_laws_markState P g_f g_laws_markFloat32S) (l : Nat) (s : Nat) (xs : List Nat) (t : Int) (k : Int) (ht : T.ok (fun x_ => x_ = (.i .i64 (k + xs.length), [.agg (ST (.own HI) l s (marksM xs.length k) t), .i .i64 k])) (
      T.ob (false = false)
        (T.ob
          ((VCall P) g_laws_markFloat32S [AV.sl (Tag.own 800000) 0 (Cont.f FloatKind.f32 xs), AV.i IntKind.i64 k]
              (AV.bx Tag.nil [AV.i IntKind.i64 (k + (↑(List.length xs) : Int)), AV.tup [AV.sl (Tag.own 800000) 0 (Cont.f FloatKind.f32 (marksM (List.length xs) k)), AV.i IntKind.i64 k]]) ∧
            List.length xs = List.length (marksM (List.length xs) k) ∧
              List.length xs = List.length (marksM (List.length xs) k) ∧ List.length xs = List.length (marksM (List.length xs) k) ∧ List.length xs = List.length (marksM (List.length xs) k) ∧ True)
          (T.ob (List.length xs = List.length (marksM (List.length xs) k) ∧ True)
            (T.leaf
              (AV.i IntKind.i64 (k + (↑(List.length xs) : Int)),
                [AV.agg [AV.f FloatKind.f32 l, AV.f FloatKind.f32 s, AV.sl (Tag.own 800000) 0 (Cont.f FloatKind.f32 (marksM (List.length xs) k)), AV.i IntKind.i64 t], AV.i IntKind.i64 k])))))) :
    VCall P g_f [.agg (ST (.own HI) l s xs t), .i .i64 k] (AV.M (.i .i64 (k + xs.length)) [.agg (ST (.own HI) l s (marksM xs.length k) t), .i .i64 k]) := h_.callM_of ps_laws_markState [6] ⟨oc_laws_markState l s xs t k, fun _ _ => none⟩ (by kernel_rfl) ht

-- END laws_markState

theorem k_laws_markState {P : Program} {f g : FuncId} (h : Is_laws_markState P f g) (c1 : C_laws_markFloat32S P g) : C_laws_markState P f := by
  intro l s xs t k hk hx
  have ml := marks_len xs.length k
  exact q_laws_markState h l s xs t k ⟨rfl, fun _ => ⟨⟨c1 _ _ hk hx, ml.symm, ml.symm, ml.symm, ml.symm, trivial⟩, fun _ => ⟨⟨ml.symm, trivial⟩, fun _ => rfl⟩⟩⟩




end Go.Proofs.LV
