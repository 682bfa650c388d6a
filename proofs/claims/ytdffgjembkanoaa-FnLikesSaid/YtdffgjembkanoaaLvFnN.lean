/- Likenesses of two series, and of ranks. -/
import Derived.Test.YtdffgjembkanoaaLvFnM
namespace Go.Proofs.LV
open Go
set_option linter.unusedVariables false
set_option linter.unusedSimpArgs false

def bothM (a b : List Nat) : Nat := fmul .f32 (dotM (offM a) (offM a)) (dotM (offM b) (offM b))
def crossM (a b : List Nat) (m : Nat) : List Nat := tab (2 * m + 1) fun j => fdiv .f32 (cdelM (offM a) (offM b) ((j : Int) - m)) (rootM (bothM a b))
def crossOk (a b : List Nat) (most : Int) : Bool := twoM a b && (inM most 0 16 && (decide (most < a.length) && (fgt .f32 (bothM a b) 0 && finAllM (crossM a b most.toNat))))

-- FN impl_CrossLikes
/-- impl.CrossLikes: slots 93, results [.t 6, .t 7]; calls [20:g_impl_areTwo, 25:g_impl_isMost, 30:g_impl_mean, 31:g_impl_lessOne, 34:g_impl_mean, 35:g_impl_lessOne, 38:g_impl_dot, 41:g_impl_dot, 47:g_impl_RootNumber, 90:g_impl_ifAll]; names [(a, 0), (b, 1), (most, 2), (a, 3), (b, 4), (most, 5), (x, 8), (y, 9), (both, 10), (root, 11), (out, 12), (lag, 13), (sum, 14), (i, 15), (v, 16), (k, 17)] -/
def ps_impl_CrossLikes : List Nat := [0, 1, 2, 6, 7, 8, 9, 10, 11, 12, 13, 14, 15, 16, 17, 27, 45, 53, 56, 57, 58, 59, 73]
def lv_impl_CrossLikes_L0 : List Nat := [2, 8, 9, 11, 12, 13]
def lv_impl_CrossLikes_L2 : List Nat := [2, 8, 9, 11, 12, 13, 14, 56, 57, 58]
def b_impl_CrossLikes_L2 (g_impl_areTwo g_impl_isMost g_impl_mean g_impl_lessOne g_impl_dot g_impl_RootNumber g_impl_ifAll : FuncId) : VCode :=
  (.seq
   (.region false [
    ⟨some 59, (.bin .lss), [.t 58, .t 57], none⟩])
   (.seq
    (.cond (.t 59)
     .skip
     (.exit 2))
    (.seq
     (.block 3
      (.seq
       (.region false [
        ⟨some 60, .mv, [.t 58], none⟩,
        ⟨some 61, .iaddr, [.t 56, .t 58], none⟩,
        ⟨some 62, .load, [.t 61], none⟩,
        ⟨some 15, .mv, [.t 60], none⟩,
        ⟨some 16, .mv, [.t 62], none⟩])
       (.seq
        (.region false [
         ⟨some 63, .mv, [.t 15], none⟩,
         ⟨some 64, .mv, [.t 13], none⟩,
         ⟨some 65, (.bin .add), [.t 63, .t 64], none⟩,
         ⟨some 17, .mv, [.t 65], none⟩])
        (.seq
         (.region false [
          ⟨some 66, .mv, [.t 17], none⟩,
          ⟨some 67, (.bin .geq), [.t 66, .k (.i .i64 0)], none⟩,
          ⟨some 68, .mv, [.t 67], none⟩,
          ⟨some 69, .mv, [.t 17], some (68, true)⟩,
          ⟨some 70, .mv, [.t 9], some (68, true)⟩,
          ⟨some 71, .len, [.t 70], some (68, true)⟩,
          ⟨some 72, (.bin .lss), [.t 69, .t 71], some (68, true)⟩,
          ⟨some 73, .pick, [.t 68, .t 72, .k (.b false)], none⟩])
         (.cond (.t 73)
          (.region false [
           ⟨some 74, .mv, [.t 14], none⟩,
           ⟨some 75, .mv, [.t 16], none⟩,
           ⟨some 76, .mv, [.t 9], none⟩,
           ⟨some 77, .mv, [.t 17], none⟩,
           ⟨some 78, .iaddr, [.t 76, .t 77], none⟩,
           ⟨some 79, .load, [.t 78], none⟩,
           ⟨some 80, (.bin .mul), [.t 75, .t 79], none⟩,
           ⟨some 81, (.bin .add), [.t 74, .t 80], none⟩,
           ⟨some 14, .mv, [.t 81], none⟩])
          .skip)))))
     (.region false [
      ⟨some 82, (.bin .add), [.t 58, .k (.i .i64 1)], none⟩,
      ⟨some 58, .mv, [.t 82], none⟩]))))

def b_impl_CrossLikes_L0 (g_impl_areTwo g_impl_isMost g_impl_mean g_impl_lessOne g_impl_dot g_impl_RootNumber g_impl_ifAll : FuncId) : VCode :=
  (.seq
   (.seq
    (.region false [
     ⟨some 51, .mv, [.t 13], none⟩,
     ⟨some 52, .mv, [.t 2], none⟩,
     ⟨some 53, (.bin .leq), [.t 51, .t 52], none⟩])
    (.cond (.t 53)
     .skip
     (.exit 0)))
   (.seq
    (.block 1
     (.seq
      (.region false [
       ⟨some 14, .mv, [.k (.f .f32 0)], none⟩])
      (.seq
       (.seq
        (.region false [
         ⟨some 56, .mv, [.t 8], none⟩,
         ⟨some 57, .len, [.t 56], none⟩,
         ⟨some 58, .mv, [.k (.i .i64 0)], none⟩])
        (.block 2 (.loop (b_impl_CrossLikes_L2 g_impl_areTwo g_impl_isMost g_impl_mean g_impl_lessOne g_impl_dot g_impl_RootNumber g_impl_ifAll))))
       (.region false [
        ⟨some 83, .mv, [.t 12], none⟩,
        ⟨some 84, .mv, [.t 14], none⟩,
        ⟨some 85, .mv, [.t 11], none⟩,
        ⟨some 86, (.bin .quo), [.t 84, .t 85], none⟩,
        ⟨some 87, (.lit true (.f .f32 [])), [.t 86], none⟩,
        ⟨some 88, .app, [.t 83, .t 87], none⟩,
        ⟨some 12, .mv, [.t 88], none⟩]))))
    (.region false [
     ⟨some 54, .mv, [.t 13], none⟩,
     ⟨some 55, (.bin .add), [.t 54, .k (.i .i64 1)], none⟩,
     ⟨some 13, .mv, [.t 55], none⟩])))

def b_impl_CrossLikes (g_impl_areTwo g_impl_isMost g_impl_mean g_impl_lessOne g_impl_dot g_impl_RootNumber g_impl_ifAll : FuncId) : VCode :=
  (.seq
   (.region false [
    ⟨some 6, (.nilsl (.f .f32 [])), [], none⟩,
    ⟨some 7, .mv, [.k (.b false)], none⟩])
   (.seq
    (.seq
     (.region false [
      ⟨some 18, .mv, [.t 0], none⟩,
      ⟨some 19, .mv, [.t 1], none⟩,
      ⟨some 20, (.call g_impl_areTwo), [.t 18, .t 19], none⟩,
      ⟨some 21, .not, [.t 20], none⟩,
      ⟨some 22, .mv, [.t 21], none⟩,
      ⟨some 23, .mv, [.t 0], some (22, false)⟩,
      ⟨some 24, .mv, [.t 2], some (22, false)⟩,
      ⟨some 25, (.call g_impl_isMost), [.t 23, .t 24], some (22, false)⟩,
      ⟨some 26, .not, [.t 25], some (22, false)⟩,
      ⟨some 27, .pick, [.t 22, .k (.b true), .t 26], none⟩])
     (.cond (.t 27)
      (.seq
       (.region false [
        ⟨some 6, (.nilsl (.f .f32 [])), [], none⟩,
        ⟨some 7, .mv, [.k (.b false)], none⟩])
       .ret)
      .skip))
    (.seq
     (.region false [
      ⟨some 28, .mv, [.t 0], none⟩,
      ⟨some 29, .mv, [.t 0], none⟩,
      ⟨some 30, (.call g_impl_mean), [.t 29], none⟩,
      ⟨some 31, (.call g_impl_lessOne), [.t 28, .t 30], none⟩,
      ⟨some 32, .mv, [.t 1], none⟩,
      ⟨some 33, .mv, [.t 1], none⟩,
      ⟨some 34, (.call g_impl_mean), [.t 33], none⟩,
      ⟨some 35, (.call g_impl_lessOne), [.t 32, .t 34], none⟩,
      ⟨some 8, .mv, [.t 31], none⟩,
      ⟨some 9, .mv, [.t 35], none⟩])
     (.seq
      (.region false [
       ⟨some 36, .mv, [.t 8], none⟩,
       ⟨some 37, .mv, [.t 8], none⟩,
       ⟨some 38, (.call g_impl_dot), [.t 36, .t 37], none⟩,
       ⟨some 39, .mv, [.t 9], none⟩,
       ⟨some 40, .mv, [.t 9], none⟩,
       ⟨some 41, (.call g_impl_dot), [.t 39, .t 40], none⟩,
       ⟨some 42, (.bin .mul), [.t 38, .t 41], none⟩,
       ⟨some 10, .mv, [.t 42], none⟩])
      (.seq
       (.seq
        (.region false [
         ⟨some 43, .mv, [.t 10], none⟩,
         ⟨some 44, (.bin .gtr), [.t 43, .k (.f .f32 0)], none⟩,
         ⟨some 45, .not, [.t 44], none⟩])
        (.cond (.t 45)
         (.seq
          (.region false [
           ⟨some 6, (.nilsl (.f .f32 [])), [], none⟩,
           ⟨some 7, .mv, [.k (.b false)], none⟩])
          .ret)
         .skip))
       (.seq
        (.region false [
         ⟨some 46, .mv, [.t 10], none⟩,
         ⟨some 47, (.call g_impl_RootNumber), [.t 46], none⟩,
         ⟨some 11, .mv, [.t 47], none⟩])
        (.seq
         (.region false [
          ⟨some 48, (.lit true (.f .f32 [])), [], none⟩,
          ⟨some 12, .mv, [.t 48], none⟩])
         (.seq
          (.seq
           (.region false [
            ⟨some 49, .mv, [.t 2], none⟩,
            ⟨some 50, .neg, [.t 49], none⟩,
            ⟨some 13, .mv, [.t 50], none⟩])
           (.block 0 (.loop (b_impl_CrossLikes_L0 g_impl_areTwo g_impl_isMost g_impl_mean g_impl_lessOne g_impl_dot g_impl_RootNumber g_impl_ifAll))))
          (.seq
           (.region false [
            ⟨some 89, .mv, [.t 12], none⟩,
            ⟨some 90, (.call g_impl_ifAll), [.t 89], none⟩,
            ⟨some 91, (.extract 0), [.t 90], none⟩,
            ⟨some 92, (.extract 1), [.t 90], none⟩,
            ⟨some 6, .mv, [.t 91], none⟩,
            ⟨some 7, .mv, [.t 92], none⟩])
           .ret)))))))))

abbrev Is_impl_CrossLikes (P : Program) (g_f : FuncId) (g_impl_areTwo g_impl_isMost g_impl_mean g_impl_lessOne g_impl_dot g_impl_RootNumber g_impl_ifAll : FuncId) : Prop := FnIs P g_f 93 [.t 6, .t 7] (b_impl_CrossLikes g_impl_areTwo g_impl_isMost g_impl_mean g_impl_lessOne g_impl_dot g_impl_RootNumber g_impl_ifAll)

abbrev C_impl_CrossLikes (P : Program) (g_f : FuncId) : Prop := ∀ (a : List Nat) (b : List Nat) (most : Int) (hx : a.length ≤ maxLen) (hy : b.length ≤ maxLen), VCall P g_f [PS [0] .f32 a, PS [1] .f32 b, .i .i64 most] (.tup [OS 0 .f32 (if crossOk a b most = true then crossM a b most.toNat else []), .b (crossOk a b most)])
def oc1_impl_CrossLikes (as : List AV) : T AV := match as with | [.sl _ _ (.f .f32 a), .sl _ _ (.f .f32 b), .i .i64 most] => .leaf (.tup [OS 0 .f32 (if crossOk a b most = true then crossM a b most.toNat else []), .b (crossOk a b most)]) | _ => .fail
def oc_impl_CrossLikes (a : List Nat) (b : List Nat) (most : Int) (d : Nat) (as : List AV) : T AV := match d with | 20 => oc1_impl_areTwo as | 25 => oc1_impl_isMost as | 30 => oc1_impl_mean as | 31 => oc1_impl_lessOne as | 34 => oc1_impl_mean as | 35 => oc1_impl_lessOne as | 38 => oc1_impl_dot as | 41 => oc1_impl_dot as | 47 => oc1_impl_RootNumber as | 90 => oc1_impl_ifAll as | _ => .fail
def h_impl_CrossLikes_L0 (a : List Nat) (b : List Nat) (most : Int) (x : List Nat) (y : List Nat) (out : List Nat) (lag : Int) : Env := [.any, .any, AV.i IntKind.i64 most] ++ anys 5 ++ [.sl (Tag.own 248) 0 (.f FloatKind.f32 x), .sl (Tag.own 280) 0 (.f FloatKind.f32 y), .any, AV.f FloatKind.f32 (rootM (fmul FloatKind.f32 (dotM (lessOneM a (meanM a)) (lessOneM a (meanM a))) (dotM (lessOneM b (meanM b)) (lessOneM b (meanM b))))), .sl (Tag.own 384) 0 (.f FloatKind.f32 out), .i IntKind.i64 lag] ++ anys 79
def h_impl_CrossLikes_L2 (a : List Nat) (b : List Nat) (most : Int) (x : List Nat) (y : List Nat) (out : List Nat) (lag : Int) (sum : Nat) (v58 : Int) : Env := [.any, .any, AV.i IntKind.i64 most] ++ anys 5 ++ [AV.sl (Tag.own 248) 0 (Cont.f FloatKind.f32 x), AV.sl (Tag.own 280) 0 (Cont.f FloatKind.f32 y), .any, AV.f FloatKind.f32 (rootM (fmul FloatKind.f32 (dotM (lessOneM a (meanM a)) (lessOneM a (meanM a))) (dotM (lessOneM b (meanM b)) (lessOneM b (meanM b))))), AV.sl (Tag.own 384) 0 (Cont.f FloatKind.f32 out), AV.i IntKind.i64 lag, .f FloatKind.f32 sum] ++ anys 41 ++ [AV.sl (Tag.own 248) 0 (Cont.f FloatKind.f32 x), AV.i IntKind.i64 (↑(List.length x) : Int), .i IntKind.i64 v58] ++ anys 34

theorem q_impl_CrossLikes_L0 {VC : FuncId → List AV → AV → Prop} {g_impl_areTwo g_impl_isMost g_impl_mean g_impl_lessOne g_impl_dot g_impl_RootNumber g_impl_ifAll : FuncId} (a : List Nat) (b : List Nat) (most : Int) (x : List Nat) (y : List Nat) (out : List Nat) (lag : Int) {e_ : Ex} {σ_ : Env} (ht : T.ok (fun x_ => x_ = (e_, σ_)) (
      T.ite (decide (lag ≤ most))
        (T.ob
          (Exec VC ps_impl_CrossLikes (VCode.block 2 (VCode.loop (b_impl_CrossLikes_L2 g_impl_areTwo g_impl_isMost g_impl_mean g_impl_lessOne g_impl_dot g_impl_RootNumber g_impl_ifAll)))
            (h_impl_CrossLikes_L2 a b most x y out lag 0 0) Ex.normal (h_impl_CrossLikes_L2 a b most x y out lag (cdelM x y lag) (↑(List.length x) : Int)))
          (T.ob True
            (T.ob
              (List.length out + List.length [fdiv FloatKind.f32 (cdelM x y lag) (rootM (fmul FloatKind.f32 (dotM (lessOneM a (meanM a)) (lessOneM a (meanM a))) (dotM (lessOneM b (meanM b)) (lessOneM b (meanM b)))))] ≤
                4294967296)
              (T.leaf
                (Ex.normal,
                  h_impl_CrossLikes_L0 a b most x y
                    (out ++ [fdiv FloatKind.f32 (cdelM x y lag) (rootM (fmul FloatKind.f32 (dotM (lessOneM a (meanM a)) (lessOneM a (meanM a))) (dotM (lessOneM b (meanM b)) (lessOneM b (meanM b)))))])
                    (IntKind.wrap IntKind.i64 (lag + 1)))))))
        (T.leaf (Ex.exit 0, h_impl_CrossLikes_L0 a b most x y out lag)))) :
    Exec VC ps_impl_CrossLikes (b_impl_CrossLikes_L0 g_impl_areTwo g_impl_isMost g_impl_mean g_impl_lessOne g_impl_dot g_impl_RootNumber g_impl_ifAll) (h_impl_CrossLikes_L0 a b most x y out lag) e_ σ_ := evL_of (lv := lv_impl_CrossLikes_L0) (rs := [6, 7]) (O := ⟨oc_impl_CrossLikes a b most, fun id σ => match id with | 2 => some (lv_impl_CrossLikes_L2, .leaf (.normal, h_impl_CrossLikes_L2 a b most x y out lag (cdelM x y lag) x.length)) | _ => none⟩) (by kernel_rfl) ht

theorem q_impl_CrossLikes_L2 {VC : FuncId → List AV → AV → Prop} {g_impl_areTwo g_impl_isMost g_impl_mean g_impl_lessOne g_impl_dot g_impl_RootNumber g_impl_ifAll : FuncId} (a : List Nat) (b : List Nat) (most : Int) (x : List Nat) (y : List Nat) (out : List Nat) (lag : Int) (sum : Nat) (v58 : Int) {e_ : Ex} {σ_ : Env} (ht : T.ok (fun x_ => x_ = (e_, σ_)) (
      T.ite (decide (v58 < (↑(List.length x) : Int)))
        (T.ob (0 ≤ v58 ∧ v58 < (↑(List.length x) : Int))
          (T.ite (decide (IntKind.wrap IntKind.i64 (v58 + lag) ≥ 0))
            (T.ite (decide (IntKind.wrap IntKind.i64 (v58 + lag) < (↑(List.length y) : Int)))
              (T.ob (0 ≤ IntKind.wrap IntKind.i64 (v58 + lag) ∧ IntKind.wrap IntKind.i64 (v58 + lag) < (↑(List.length y) : Int))
                (T.leaf
                  (Ex.normal,
                    h_impl_CrossLikes_L2 a b most x y out lag (fadd FloatKind.f32 sum (fmul FloatKind.f32 (List.getD x (Int.toNat v58) 0) (List.getD y (Int.toNat (IntKind.wrap IntKind.i64 (v58 + lag))) 0)))
                      (IntKind.wrap IntKind.i64 (v58 + 1)))))
              (T.leaf (Ex.normal, h_impl_CrossLikes_L2 a b most x y out lag sum (IntKind.wrap IntKind.i64 (v58 + 1)))))
            (T.leaf (Ex.normal, h_impl_CrossLikes_L2 a b most x y out lag sum (IntKind.wrap IntKind.i64 (v58 + 1))))))
        (T.leaf (Ex.exit 2, h_impl_CrossLikes_L2 a b most x y out lag sum v58)))) :
    Exec VC ps_impl_CrossLikes (b_impl_CrossLikes_L2 g_impl_areTwo g_impl_isMost g_impl_mean g_impl_lessOne g_impl_dot g_impl_RootNumber g_impl_ifAll) (h_impl_CrossLikes_L2 a b most x y out lag sum v58) e_ σ_ := evL_of (lv := lv_impl_CrossLikes_L2) (rs := [6, 7]) (O := ⟨oc_impl_CrossLikes a b most, fun _ _ => none⟩) (by kernel_rfl) ht

theorem q_impl_CrossLikes {P : Program} {g_f : FuncId} {g_impl_areTwo g_impl_isMost g_impl_mean g_impl_lessOne g_impl_dot g_impl_RootNumber g_impl_ifAll : FuncId} (h_ : Is_impl_CrossLikes P g_f g_impl_areTwo g_impl_isMost g_impl_mean g_impl_lessOne g_impl_dot g_impl_RootNumber g_impl_ifAll) (a : List Nat) (b : List Nat) (most : Int) (ht : T.ok (fun x_ => x_ = .tup [OS 0 .f32 (if crossOk a b most = true then crossM a b most.toNat else []), .b (crossOk a b most)]) (
      T.ob ((VCall P) g_impl_areTwo [AV.sl (Tag.par [0]) 0 (Cont.f FloatKind.f32 a), AV.sl (Tag.par [1]) 0 (Cont.f FloatKind.f32 b)] (AV.b (twoM a b)))
        (T.ite (!twoM a b) (T.leaf (AV.tup [AV.sl (Tag.own 0) 0 (Cont.f FloatKind.f32 []), AV.b false]))
          (T.ob ((VCall P) g_impl_isMost [AV.sl (Tag.par [0]) 0 (Cont.f FloatKind.f32 a), AV.i IntKind.i64 most] (AV.b (seriesM a && (inM most 0 16 && decide (most < (↑(List.length a) : Int))))))
            (T.ite (!(seriesM a && (inM most 0 16 && decide (most < (↑(List.length a) : Int))))) (T.leaf (AV.tup [AV.sl (Tag.own 0) 0 (Cont.f FloatKind.f32 []), AV.b false]))
              (T.ob ((VCall P) g_impl_mean [AV.sl (Tag.par [0]) 0 (Cont.f FloatKind.f32 a)] (AV.f FloatKind.f32 (meanM a)))
                (T.ob ((VCall P) g_impl_lessOne [AV.sl (Tag.par [0]) 0 (Cont.f FloatKind.f32 a), AV.f FloatKind.f32 (meanM a)] (AV.sl (Tag.own 0) 0 (Cont.f FloatKind.f32 (lessOneM a (meanM a)))))
                  (T.ob ((VCall P) g_impl_mean [AV.sl (Tag.par [0]) 0 (Cont.f FloatKind.f32 b)] (AV.f FloatKind.f32 (meanM b)))
                    (T.ob ((VCall P) g_impl_lessOne [AV.sl (Tag.par [0]) 0 (Cont.f FloatKind.f32 b), AV.f FloatKind.f32 (meanM b)] (AV.sl (Tag.own 0) 0 (Cont.f FloatKind.f32 (lessOneM b (meanM b)))))
                      (T.ob
                        ((VCall P) g_impl_dot [AV.sl (Tag.par [0]) 0 (Cont.f FloatKind.f32 (lessOneM a (meanM a))), AV.sl (Tag.par [1]) 0 (Cont.f FloatKind.f32 (lessOneM a (meanM a)))]
                          (AV.f FloatKind.f32 (dotM (lessOneM a (meanM a)) (lessOneM a (meanM a)))))
                        (T.ob
                          ((VCall P) g_impl_dot [AV.sl (Tag.par [0]) 0 (Cont.f FloatKind.f32 (lessOneM b (meanM b))), AV.sl (Tag.par [1]) 0 (Cont.f FloatKind.f32 (lessOneM b (meanM b)))]
                            (AV.f FloatKind.f32 (dotM (lessOneM b (meanM b)) (lessOneM b (meanM b)))))
                          (T.ite (!fgt FloatKind.f32 (fmul FloatKind.f32 (dotM (lessOneM a (meanM a)) (lessOneM a (meanM a))) (dotM (lessOneM b (meanM b)) (lessOneM b (meanM b)))) 0)
                            (T.leaf (AV.tup [AV.sl (Tag.own 0) 0 (Cont.f FloatKind.f32 []), AV.b false]))
                            (T.ob
                              ((VCall P) g_impl_RootNumber [AV.f FloatKind.f32 (fmul FloatKind.f32 (dotM (lessOneM a (meanM a)) (lessOneM a (meanM a))) (dotM (lessOneM b (meanM b)) (lessOneM b (meanM b))))]
                                (AV.f FloatKind.f32 (rootM (fmul FloatKind.f32 (dotM (lessOneM a (meanM a)) (lessOneM a (meanM a))) (dotM (lessOneM b (meanM b)) (lessOneM b (meanM b)))))))
                              (T.ob
                                (Exec (VCall P) ps_impl_CrossLikes (VCode.block 0 (VCode.loop (b_impl_CrossLikes_L0 g_impl_areTwo g_impl_isMost g_impl_mean g_impl_lessOne g_impl_dot g_impl_RootNumber g_impl_ifAll)))
                                  (h_impl_CrossLikes_L0 a b most (lessOneM a (meanM a)) (lessOneM b (meanM b)) [] (IntKind.wrap IntKind.i64 (0 - most))) Ex.normal
                                  (h_impl_CrossLikes_L0 a b most (offM a) (offM b) (crossM a b (Int.toNat most)) (most + 1)))
                                (T.ob
                                  ((VCall P) g_impl_ifAll [AV.sl (Tag.par [0]) 0 (Cont.f FloatKind.f32 (crossM a b (Int.toNat most)))]
                                    (AV.tup [AV.sl (Tag.par [0]) 0 (Cont.f FloatKind.f32 (ifAllM (crossM a b (Int.toNat most)))), AV.b (finAllM (crossM a b (Int.toNat most)))]))
                                  (T.leaf (AV.tup [AV.sl (Tag.own 0) 0 (Cont.f FloatKind.f32 (ifAllM (crossM a b (Int.toNat most)))), AV.b (finAllM (crossM a b (Int.toNat most)))]))))))))))))))))) :
    VCall P g_f [PS [0] .f32 a, PS [1] .f32 b, .i .i64 most] (.tup [OS 0 .f32 (if crossOk a b most = true then crossM a b most.toNat else []), .b (crossOk a b most)]) := h_.call_of ps_impl_CrossLikes ⟨oc_impl_CrossLikes a b most, fun id σ => match id with | 0 => some (lv_impl_CrossLikes_L0, .leaf (.normal, h_impl_CrossLikes_L0 a b most (offM a) (offM b) (crossM a b most.toNat) (most + 1))) | _ => none⟩ (by kernel_rfl) ht

-- END impl_CrossLikes

-- FN spec_CrossLikes
/-- spec.CrossLikes: slots 75, results [.t 6, .t 7]; calls [14:g_spec_l02Series, 18:g_spec_l02Series, 30:g_spec_l00In, 40:g_spec_l03Off, 42:g_spec_l03Off, 45:g_spec_l03Delayed, 48:g_spec_l03Delayed, 50:g_spec_l01Sqrt, 66:g_spec_l03Delayed, 72:g_spec_l03Given]; names [(a, 0), (b, 1), (most, 2), (a, 3), (b, 4), (most, 5), (x, 8), (y, 9), (all, 10), (out, 11), (lag, 12)] -/
def ps_spec_CrossLikes : List Nat := [0, 1, 2, 6, 7, 8, 9, 10, 11, 12, 38, 53, 59]
def lv_spec_CrossLikes_L0 : List Nat := [2, 8, 9, 10, 11, 12]
def b_spec_CrossLikes_L0 (g_spec_l02Series g_spec_l00In g_spec_l03Off g_spec_l03Delayed g_spec_l01Sqrt g_spec_l03Given : FuncId) : VCode :=
  (.seq
   (.seq
    (.region false [
     ⟨some 57, .mv, [.t 12], none⟩,
     ⟨some 58, .mv, [.t 2], none⟩,
     ⟨some 59, (.bin .leq), [.t 57, .t 58], none⟩])
    (.cond (.t 59)
     .skip
     (.exit 0)))
   (.seq
    (.block 1
     (.region false [
      ⟨some 62, .mv, [.t 11], none⟩,
      ⟨some 63, .mv, [.t 8], none⟩,
      ⟨some 64, .mv, [.t 9], none⟩,
      ⟨some 65, .mv, [.t 12], none⟩,
      ⟨some 66, (.call g_spec_l03Delayed), [.t 63, .t 64, .t 65], none⟩,
      ⟨some 67, .mv, [.t 10], none⟩,
      ⟨some 68, (.bin .quo), [.t 66, .t 67], none⟩,
      ⟨some 69, (.lit true (.f .f32 [])), [.t 68], none⟩,
      ⟨some 70, .app, [.t 62, .t 69], none⟩,
      ⟨some 11, .mv, [.t 70], none⟩]))
    (.region false [
     ⟨some 60, .mv, [.t 12], none⟩,
     ⟨some 61, (.bin .add), [.t 60, .k (.i .i64 1)], none⟩,
     ⟨some 12, .mv, [.t 61], none⟩])))

def b_spec_CrossLikes (g_spec_l02Series g_spec_l00In g_spec_l03Off g_spec_l03Delayed g_spec_l01Sqrt g_spec_l03Given : FuncId) : VCode :=
  (.seq
   (.region false [
    ⟨some 6, (.nilsl (.f .f32 [])), [], none⟩,
    ⟨some 7, .mv, [.k (.b false)], none⟩])
   (.seq
    (.seq
     (.region false [
      ⟨some 13, .mv, [.t 0], none⟩,
      ⟨some 14, (.call g_spec_l02Series), [.t 13], none⟩,
      ⟨some 15, .not, [.t 14], none⟩,
      ⟨some 16, .mv, [.t 15], none⟩,
      ⟨some 17, .mv, [.t 1], some (16, false)⟩,
      ⟨some 18, (.call g_spec_l02Series), [.t 17], some (16, false)⟩,
      ⟨some 19, .not, [.t 18], some (16, false)⟩,
      ⟨some 20, .pick, [.t 16, .k (.b true), .t 19], none⟩,
      ⟨some 21, .mv, [.t 20], none⟩,
      ⟨some 22, .mv, [.t 0], some (21, false)⟩,
      ⟨some 23, .len, [.t 22], some (21, false)⟩,
      ⟨some 24, .mv, [.t 1], some (21, false)⟩,
      ⟨some 25, .len, [.t 24], some (21, false)⟩,
      ⟨some 26, (.bin .neq), [.t 23, .t 25], some (21, false)⟩,
      ⟨some 27, .pick, [.t 21, .k (.b true), .t 26], none⟩,
      ⟨some 28, .mv, [.t 27], none⟩,
      ⟨some 29, .mv, [.t 2], some (28, false)⟩,
      ⟨some 30, (.call g_spec_l00In), [.t 29, .k (.i .i64 0), .k (.i .i64 16)], some (28, false)⟩,
      ⟨some 31, .not, [.t 30], some (28, false)⟩,
      ⟨some 32, .pick, [.t 28, .k (.b true), .t 31], none⟩,
      ⟨some 33, .mv, [.t 32], none⟩,
      ⟨some 34, .mv, [.t 2], some (33, false)⟩,
      ⟨some 35, .mv, [.t 0], some (33, false)⟩,
      ⟨some 36, .len, [.t 35], some (33, false)⟩,
      ⟨some 37, (.bin .geq), [.t 34, .t 36], some (33, false)⟩,
      ⟨some 38, .pick, [.t 33, .k (.b true), .t 37], none⟩])
     (.cond (.t 38)
      (.seq
       (.region false [
        ⟨some 6, (.nilsl (.f .f32 [])), [], none⟩,
        ⟨some 7, .mv, [.k (.b false)], none⟩])
       .ret)
      .skip))
    (.seq
     (.region false [
      ⟨some 39, .mv, [.t 0], none⟩,
      ⟨some 40, (.call g_spec_l03Off), [.t 39], none⟩,
      ⟨some 8, .mv, [.t 40], none⟩])
     (.seq
      (.region false [
       ⟨some 41, .mv, [.t 1], none⟩,
       ⟨some 42, (.call g_spec_l03Off), [.t 41], none⟩,
       ⟨some 9, .mv, [.t 42], none⟩])
      (.seq
       (.region false [
        ⟨some 43, .mv, [.t 8], none⟩,
        ⟨some 44, .mv, [.t 8], none⟩,
        ⟨some 45, (.call g_spec_l03Delayed), [.t 43, .t 44, .k (.i .i64 0)], none⟩,
        ⟨some 46, .mv, [.t 9], none⟩,
        ⟨some 47, .mv, [.t 9], none⟩,
        ⟨some 48, (.call g_spec_l03Delayed), [.t 46, .t 47, .k (.i .i64 0)], none⟩,
        ⟨some 49, (.bin .mul), [.t 45, .t 48], none⟩,
        ⟨some 50, (.call g_spec_l01Sqrt), [.t 49], none⟩,
        ⟨some 10, .mv, [.t 50], none⟩])
       (.seq
        (.seq
         (.region false [
          ⟨some 51, .mv, [.t 10], none⟩,
          ⟨some 52, (.bin .gtr), [.t 51, .k (.f .f32 0)], none⟩,
          ⟨some 53, .not, [.t 52], none⟩])
         (.cond (.t 53)
          (.seq
           (.region false [
            ⟨some 6, (.nilsl (.f .f32 [])), [], none⟩,
            ⟨some 7, .mv, [.k (.b false)], none⟩])
           .ret)
          .skip))
        (.seq
         (.region false [
          ⟨some 54, (.lit true (.f .f32 [])), [], none⟩,
          ⟨some 11, .mv, [.t 54], none⟩])
         (.seq
          (.seq
           (.region false [
            ⟨some 55, .mv, [.t 2], none⟩,
            ⟨some 56, .neg, [.t 55], none⟩,
            ⟨some 12, .mv, [.t 56], none⟩])
           (.block 0 (.loop (b_spec_CrossLikes_L0 g_spec_l02Series g_spec_l00In g_spec_l03Off g_spec_l03Delayed g_spec_l01Sqrt g_spec_l03Given))))
          (.seq
           (.region false [
            ⟨some 71, .mv, [.t 11], none⟩,
            ⟨some 72, (.call g_spec_l03Given), [.t 71], none⟩,
            ⟨some 73, (.extract 0), [.t 72], none⟩,
            ⟨some 74, (.extract 1), [.t 72], none⟩,
            ⟨some 6, .mv, [.t 73], none⟩,
            ⟨some 7, .mv, [.t 74], none⟩])
           .ret)))))))))

abbrev Is_spec_CrossLikes (P : Program) (g_f : FuncId) (g_spec_l02Series g_spec_l00In g_spec_l03Off g_spec_l03Delayed g_spec_l01Sqrt g_spec_l03Given : FuncId) : Prop := FnIs P g_f 75 [.t 6, .t 7] (b_spec_CrossLikes g_spec_l02Series g_spec_l00In g_spec_l03Off g_spec_l03Delayed g_spec_l01Sqrt g_spec_l03Given)

abbrev C_spec_CrossLikes (P : Program) (g_f : FuncId) : Prop := ∀ (a : List Nat) (b : List Nat) (most : Int) (hx : a.length ≤ maxLen) (hy : b.length ≤ maxLen), VCall P g_f [PS [0] .f32 a, PS [1] .f32 b, .i .i64 most] (.tup [OS 0 .f32 (if crossOk a b most = true then crossM a b most.toNat else []), .b (crossOk a b most)])
def oc1_spec_CrossLikes (as : List AV) : T AV := match as with | [.sl _ _ (.f .f32 a), .sl _ _ (.f .f32 b), .i .i64 most] => .leaf (.tup [OS 0 .f32 (if crossOk a b most = true then crossM a b most.toNat else []), .b (crossOk a b most)]) | _ => .fail
def oc_spec_CrossLikes (a : List Nat) (b : List Nat) (most : Int) (d : Nat) (as : List AV) : T AV := match d with | 14 => oc1_spec_l02Series as | 18 => oc1_spec_l02Series as | 30 => oc1_spec_l00In as | 40 => oc1_spec_l03Off as | 42 => oc1_spec_l03Off as | 45 => oc1_spec_l03Delayed as | 48 => oc1_spec_l03Delayed as | 50 => oc1_spec_l01Sqrt as | 66 => oc1_spec_l03Delayed as | 72 => oc1_spec_l03Given as | _ => .fail
def h_spec_CrossLikes_L0 (a : List Nat) (b : List Nat) (most : Int) (x : List Nat) (y : List Nat) (out : List Nat) (lag : Int) : Env := [.any, .any, AV.i IntKind.i64 most] ++ anys 5 ++ [.sl (Tag.own 320) 0 (.f FloatKind.f32 x), .sl (Tag.own 336) 0 (.f FloatKind.f32 y), AV.f FloatKind.f32 (rootM (fmul FloatKind.f32 (cdelM (offM a) (offM a) 0) (cdelM (offM b) (offM b) 0))), .sl (Tag.own 432) 0 (.f FloatKind.f32 out), .i IntKind.i64 lag] ++ anys 62

theorem q_spec_CrossLikes_L0 {VC : FuncId → List AV → AV → Prop} {g_spec_l02Series g_spec_l00In g_spec_l03Off g_spec_l03Delayed g_spec_l01Sqrt g_spec_l03Given : FuncId} (a : List Nat) (b : List Nat) (most : Int) (x : List Nat) (y : List Nat) (out : List Nat) (lag : Int) {e_ : Ex} {σ_ : Env} (ht : T.ok (fun x_ => x_ = (e_, σ_)) (
      T.ite (decide (lag ≤ most))
        (T.ob (VC g_spec_l03Delayed [AV.sl (Tag.par [0]) 0 (Cont.f FloatKind.f32 x), AV.sl (Tag.par [1]) 0 (Cont.f FloatKind.f32 y), AV.i IntKind.i64 lag] (AV.f FloatKind.f32 (cdelM x y lag)))
          (T.ob True
            (T.ob (List.length out + List.length [fdiv FloatKind.f32 (cdelM x y lag) (rootM (fmul FloatKind.f32 (cdelM (offM a) (offM a) 0) (cdelM (offM b) (offM b) 0)))] ≤ 4294967296)
              (T.leaf
                (Ex.normal,
                  h_spec_CrossLikes_L0 a b most x y (out ++ [fdiv FloatKind.f32 (cdelM x y lag) (rootM (fmul FloatKind.f32 (cdelM (offM a) (offM a) 0) (cdelM (offM b) (offM b) 0)))]) (IntKind.wrap IntKind.i64 (lag + 1)))))))
        (T.leaf (Ex.exit 0, h_spec_CrossLikes_L0 a b most x y out lag)))) :
    Exec VC ps_spec_CrossLikes (b_spec_CrossLikes_L0 g_spec_l02Series g_spec_l00In g_spec_l03Off g_spec_l03Delayed g_spec_l01Sqrt g_spec_l03Given) (h_spec_CrossLikes_L0 a b most x y out lag) e_ σ_ := evL_of (lv := lv_spec_CrossLikes_L0) (rs := [6, 7]) (O := ⟨oc_spec_CrossLikes a b most, fun _ _ => none⟩) (by kernel_rfl) ht

theorem q_spec_CrossLikes {P : Program} {g_f : FuncId} {g_spec_l02Series g_spec_l00In g_spec_l03Off g_spec_l03Delayed g_spec_l01Sqrt g_spec_l03Given : FuncId} (h_ : Is_spec_CrossLikes P g_f g_spec_l02Series g_spec_l00In g_spec_l03Off g_spec_l03Delayed g_spec_l01Sqrt g_spec_l03Given) (a : List Nat) (b : List Nat) (most : Int) (ht : T.ok (fun x_ => x_ = .tup [OS 0 .f32 (if crossOk a b most = true then crossM a b most.toNat else []), .b (crossOk a b most)]) (
      T.ob ((VCall P) g_spec_l02Series [AV.sl (Tag.par [0]) 0 (Cont.f FloatKind.f32 a)] (AV.b (seriesM a)))
        (T.ite (!seriesM a) (T.leaf (AV.tup [AV.sl (Tag.own 0) 0 (Cont.f FloatKind.f32 []), AV.b false]))
          (T.ob ((VCall P) g_spec_l02Series [AV.sl (Tag.par [0]) 0 (Cont.f FloatKind.f32 b)] (AV.b (seriesM b)))
            (T.ite (!seriesM b) (T.leaf (AV.tup [AV.sl (Tag.own 0) 0 (Cont.f FloatKind.f32 []), AV.b false]))
              (T.ite ((↑(List.length a) : Int) != (↑(List.length b) : Int)) (T.leaf (AV.tup [AV.sl (Tag.own 0) 0 (Cont.f FloatKind.f32 []), AV.b false]))
                (T.ob ((VCall P) g_spec_l00In [AV.i IntKind.i64 most, AV.i IntKind.i64 0, AV.i IntKind.i64 16] (AV.b (inM most 0 16)))
                  (T.ite (!inM most 0 16) (T.leaf (AV.tup [AV.sl (Tag.own 0) 0 (Cont.f FloatKind.f32 []), AV.b false]))
                    (T.ite (decide (most ≥ (↑(List.length a) : Int))) (T.leaf (AV.tup [AV.sl (Tag.own 0) 0 (Cont.f FloatKind.f32 []), AV.b false]))
                      (T.ob ((VCall P) g_spec_l03Off [AV.sl (Tag.par [0]) 0 (Cont.f FloatKind.f32 a)] (AV.sl (Tag.own 0) 0 (Cont.f FloatKind.f32 (offM a))))
                        (T.ob ((VCall P) g_spec_l03Off [AV.sl (Tag.par [0]) 0 (Cont.f FloatKind.f32 b)] (AV.sl (Tag.own 0) 0 (Cont.f FloatKind.f32 (offM b))))
                          (T.ob
                            ((VCall P) g_spec_l03Delayed [AV.sl (Tag.par [0]) 0 (Cont.f FloatKind.f32 (offM a)), AV.sl (Tag.par [1]) 0 (Cont.f FloatKind.f32 (offM a)), AV.i IntKind.i64 0]
                              (AV.f FloatKind.f32 (cdelM (offM a) (offM a) 0)))
                            (T.ob
                              ((VCall P) g_spec_l03Delayed [AV.sl (Tag.par [0]) 0 (Cont.f FloatKind.f32 (offM b)), AV.sl (Tag.par [1]) 0 (Cont.f FloatKind.f32 (offM b)), AV.i IntKind.i64 0]
                                (AV.f FloatKind.f32 (cdelM (offM b) (offM b) 0)))
                              (T.ob
                                ((VCall P) g_spec_l01Sqrt [AV.f FloatKind.f32 (fmul FloatKind.f32 (cdelM (offM a) (offM a) 0) (cdelM (offM b) (offM b) 0))]
                                  (AV.f FloatKind.f32 (rootM (fmul FloatKind.f32 (cdelM (offM a) (offM a) 0) (cdelM (offM b) (offM b) 0)))))
                                (T.ite (!fgt FloatKind.f32 (rootM (fmul FloatKind.f32 (cdelM (offM a) (offM a) 0) (cdelM (offM b) (offM b) 0))) 0) (T.leaf (AV.tup [AV.sl (Tag.own 0) 0 (Cont.f FloatKind.f32 []), AV.b false]))
                                  (T.ob
                                    (Exec (VCall P) ps_spec_CrossLikes (VCode.block 0 (VCode.loop (b_spec_CrossLikes_L0 g_spec_l02Series g_spec_l00In g_spec_l03Off g_spec_l03Delayed g_spec_l01Sqrt g_spec_l03Given)))
                                      (h_spec_CrossLikes_L0 a b most (offM a) (offM b) [] (IntKind.wrap IntKind.i64 (0 - most))) Ex.normal
                                      (h_spec_CrossLikes_L0 a b most (offM a) (offM b) (crossM a b (Int.toNat most)) (most + 1)))
                                    (T.ob
                                      ((VCall P) g_spec_l03Given [AV.sl (Tag.par [0]) 0 (Cont.f FloatKind.f32 (crossM a b (Int.toNat most)))]
                                        (AV.tup [AV.sl (Tag.par [0]) 0 (Cont.f FloatKind.f32 (ifAllM (crossM a b (Int.toNat most)))), AV.b (finAllM (crossM a b (Int.toNat most)))]))
                                      (T.leaf (AV.tup [AV.sl (Tag.own 0) 0 (Cont.f FloatKind.f32 (ifAllM (crossM a b (Int.toNat most)))), AV.b (finAllM (crossM a b (Int.toNat most)))]))))))))))))))))))) :
    VCall P g_f [PS [0] .f32 a, PS [1] .f32 b, .i .i64 most] (.tup [OS 0 .f32 (if crossOk a b most = true then crossM a b most.toNat else []), .b (crossOk a b most)]) := h_.call_of ps_spec_CrossLikes ⟨oc_spec_CrossLikes a b most, fun id σ => match id with | 0 => some (lv_spec_CrossLikes_L0, .leaf (.normal, h_spec_CrossLikes_L0 a b most (offM a) (offM b) (crossM a b most.toNat) (most + 1))) | _ => none⟩ (by kernel_rfl) ht

-- END spec_CrossLikes

def belowM (xs : List Nat) (x : Nat) : Int := sumN xs.length fun k => if flt .f32 (xs.getD k 0) x = true then 1 else 0
def equalM (xs : List Nat) (x : Nat) : Int := sumN xs.length fun k => if feq .f32 (xs.getD k 0) x = true then 1 else 0
def rankM (xs : List Nat) (x : Nat) : Nat := fadd .f32 (fofi .f32 (belowM xs x)) (fmul .f32 1056964608 (fofi .f32 (equalM xs x - 1)))
def ranksM (xs : List Nat) : List Nat := tab xs.length fun i => rankM xs (xs.getD i 0)

-- FN impl_around
/-- impl.around: slots 33, results [.t 4, .t 5]; calls []; names [(list, 0), (x, 1), (list, 2), (x, 3), (below, 6), (equal, 7), (_, 8), (y, 9)] -/
def ps_impl_around : List Nat := [0, 1, 4, 5, 6, 7, 9, 10, 11, 12, 13, 16, 22]
def lv_impl_around_L0 : List Nat := [1, 6, 7, 10, 11, 12]
def b_impl_around_L0 : VCode :=
  (.seq
   (.region false [
    ⟨some 13, (.bin .lss), [.t 12, .t 11], none⟩])
   (.seq
    (.cond (.t 13)
     .skip
     (.exit 0))
    (.seq
     (.block 1
      (.seq
       (.region false [
        ⟨some 14, .iaddr, [.t 10, .t 12], none⟩,
        ⟨some 15, .load, [.t 14], none⟩,
        ⟨some 9, .mv, [.t 15], none⟩])
       (.block 2
        (.seq
         (.region false [
          ⟨some 17, .mv, [.t 9], none⟩,
          ⟨some 18, .mv, [.t 1], none⟩,
          ⟨some 19, (.bin .lss), [.t 17, .t 18], none⟩,
          ⟨some 16, .mv, [.t 19], none⟩])
         (.cond (.t 16)
          (.region false [
           ⟨some 20, .mv, [.t 6], none⟩,
           ⟨some 21, (.bin .add), [.t 20, .k (.i .i64 1)], none⟩,
           ⟨some 6, .mv, [.t 21], none⟩])
          (.seq
           (.region false [
            ⟨some 23, .mv, [.t 9], none⟩,
            ⟨some 24, .mv, [.t 1], none⟩,
            ⟨some 25, (.bin .eql), [.t 23, .t 24], none⟩,
            ⟨some 22, .mv, [.t 25], none⟩])
           (.cond (.t 22)
            (.region false [
             ⟨some 26, .mv, [.t 7], none⟩,
             ⟨some 27, (.bin .add), [.t 26, .k (.i .i64 1)], none⟩,
             ⟨some 7, .mv, [.t 27], none⟩])
            .skip)))))))
     (.region false [
      ⟨some 28, (.bin .add), [.t 12, .k (.i .i64 1)], none⟩,
      ⟨some 12, .mv, [.t 28], none⟩]))))

def b_impl_around : VCode :=
  (.seq
   (.region false [
    ⟨some 4, .mv, [.k (.f .f32 0)], none⟩,
    ⟨some 5, .mv, [.k (.f .f32 0)], none⟩])
   (.seq
    (.region false [
     ⟨some 6, .mv, [.k (.i .i64 0)], none⟩,
     ⟨some 7, .mv, [.k (.i .i64 0)], none⟩])
    (.seq
     (.seq
      (.region false [
       ⟨some 10, .mv, [.t 0], none⟩,
       ⟨some 11, .len, [.t 10], none⟩,
       ⟨some 12, .mv, [.k (.i .i64 0)], none⟩])
      (.block 0 (.loop b_impl_around_L0)))
     (.seq
      (.region false [
       ⟨some 29, .mv, [.t 6], none⟩,
       ⟨some 30, (.convF .f32), [.t 29], none⟩,
       ⟨some 31, .mv, [.t 7], none⟩,
       ⟨some 32, (.convF .f32), [.t 31], none⟩,
       ⟨some 4, .mv, [.t 30], none⟩,
       ⟨some 5, .mv, [.t 32], none⟩])
      .ret))))

abbrev Is_impl_around (P : Program) (g_f : FuncId) : Prop := FnIs P g_f 33 [.t 4, .t 5] (b_impl_around)

abbrev C_impl_around (P : Program) (g_f : FuncId) : Prop := ∀ (xs : List Nat) (x : Nat) (hx : xs.length ≤ 96), VCall P g_f [PS [0] .f32 xs, .f .f32 x] (.tup [.f .f32 (fofi .f32 (belowM xs x)), .f .f32 (fofi .f32 (equalM xs x))])
def oc1_impl_around (as : List AV) : T AV := match as with | [.sl _ _ (.f .f32 xs), .f .f32 x] => .leaf (.tup [.f .f32 (fofi .f32 (belowM xs x)), .f .f32 (fofi .f32 (equalM xs x))]) | _ => .fail
def h_impl_around_L0 (xs : List Nat) (x : Nat) (below : Int) (equal : Int) (v12 : Int) : Env := [.any, AV.f FloatKind.f32 x] ++ anys 4 ++ [.i IntKind.i64 below, .i IntKind.i64 equal, .any, .any, AV.sl (Tag.par [0]) 0 (Cont.f FloatKind.f32 xs), AV.i IntKind.i64 (↑(List.length xs) : Int), .i IntKind.i64 v12] ++ anys 20

theorem q_impl_around_L0 {VC : FuncId → List AV → AV → Prop} (xs : List Nat) (x : Nat) (below : Int) (equal : Int) (v12 : Int) {e_ : Ex} {σ_ : Env} (ht : T.ok (fun x_ => x_ = (e_, σ_)) (
      T.ite (decide (v12 < (↑(List.length xs) : Int)))
        (T.ob (0 ≤ v12 ∧ v12 < (↑(List.length xs) : Int))
          (T.ite (flt FloatKind.f32 (List.getD xs (Int.toNat v12) 0) x) (T.leaf (Ex.normal, h_impl_around_L0 xs x (IntKind.wrap IntKind.i64 (below + 1)) equal (IntKind.wrap IntKind.i64 (v12 + 1))))
            (T.ite (feq FloatKind.f32 (List.getD xs (Int.toNat v12) 0) x) (T.leaf (Ex.normal, h_impl_around_L0 xs x below (IntKind.wrap IntKind.i64 (equal + 1)) (IntKind.wrap IntKind.i64 (v12 + 1))))
              (T.leaf (Ex.normal, h_impl_around_L0 xs x below equal (IntKind.wrap IntKind.i64 (v12 + 1)))))))
        (T.leaf (Ex.exit 0, h_impl_around_L0 xs x below equal v12)))) :
    Exec VC ps_impl_around (b_impl_around_L0) (h_impl_around_L0 xs x below equal v12) e_ σ_ := evL_of (lv := lv_impl_around_L0) (rs := [4, 5]) (O := ⟨fun _ _ => .fail, fun _ _ => none⟩) (by kernel_rfl) ht

theorem q_impl_around {P : Program} {g_f : FuncId} (h_ : Is_impl_around P g_f) (xs : List Nat) (x : Nat) (ht : T.ok (fun x_ => x_ = .tup [.f .f32 (fofi .f32 (belowM xs x)), .f .f32 (fofi .f32 (equalM xs x))]) (
      T.ob (Exec (VCall P) ps_impl_around (VCode.block 0 (VCode.loop b_impl_around_L0)) (h_impl_around_L0 xs x 0 0 0) Ex.normal (h_impl_around_L0 xs x (belowM xs x) (equalM xs x) (↑(List.length xs) : Int)))
        (T.ob True (T.ob True (T.leaf (AV.tup [AV.f FloatKind.f32 (fofi FloatKind.f32 (belowM xs x)), AV.f FloatKind.f32 (fofi FloatKind.f32 (equalM xs x))])))))) :
    VCall P g_f [PS [0] .f32 xs, .f .f32 x] (.tup [.f .f32 (fofi .f32 (belowM xs x)), .f .f32 (fofi .f32 (equalM xs x))]) := h_.call_of ps_impl_around ⟨fun _ _ => .fail, fun id σ => match id with | 0 => some (lv_impl_around_L0, .leaf (.normal, h_impl_around_L0 xs x (belowM xs x) (equalM xs x) xs.length)) | _ => none⟩ (by kernel_rfl) ht

-- END impl_around

-- FN impl_ranks
/-- impl.ranks: slots 31, results [.t 2]; calls [18:g_impl_around]; names [(list, 0), (list, 1), (out, 3), (_, 4), (x, 5), (below, 6), (equal, 7)] -/
def ps_impl_ranks : List Nat := [0, 2, 3, 5, 6, 7, 9, 10, 11, 12]
def lv_impl_ranks_L0 : List Nat := [0, 3, 9, 10, 11]
def b_impl_ranks_L0 (g_impl_around : FuncId) : VCode :=
  (.seq
   (.region false [
    ⟨some 12, (.bin .lss), [.t 11, .t 10], none⟩])
   (.seq
    (.cond (.t 12)
     .skip
     (.exit 0))
    (.seq
     (.block 1
      (.seq
       (.region false [
        ⟨some 13, .iaddr, [.t 9, .t 11], none⟩,
        ⟨some 14, .load, [.t 13], none⟩,
        ⟨some 5, .mv, [.t 14], none⟩])
       (.seq
        (.region false [
         ⟨some 16, .mv, [.t 0], none⟩,
         ⟨some 17, .mv, [.t 5], none⟩,
         ⟨some 18, (.call g_impl_around), [.t 16, .t 17], none⟩,
         ⟨some 15, .mv, [.t 18], none⟩,
         ⟨some 19, (.extract 0), [.t 15], none⟩,
         ⟨some 20, (.extract 1), [.t 15], none⟩,
         ⟨some 6, .mv, [.t 19], none⟩,
         ⟨some 7, .mv, [.t 20], none⟩])
        (.region false [
         ⟨some 21, .mv, [.t 3], none⟩,
         ⟨some 22, .mv, [.t 6], none⟩,
         ⟨some 23, .mv, [.t 7], none⟩,
         ⟨some 24, (.bin .sub), [.t 23, .k (.f .f32 1065353216)], none⟩,
         ⟨some 25, (.bin .quo), [.t 24, .k (.f .f32 1073741824)], none⟩,
         ⟨some 26, (.bin .add), [.t 22, .t 25], none⟩,
         ⟨some 27, (.lit true (.f .f32 [])), [.t 26], none⟩,
         ⟨some 28, .app, [.t 21, .t 27], none⟩,
         ⟨some 3, .mv, [.t 28], none⟩]))))
     (.region false [
      ⟨some 29, (.bin .add), [.t 11, .k (.i .i64 1)], none⟩,
      ⟨some 11, .mv, [.t 29], none⟩]))))

def b_impl_ranks (g_impl_around : FuncId) : VCode :=
  (.seq
   (.region false [
    ⟨some 2, (.nilsl (.f .f32 [])), [], none⟩])
   (.seq
    (.region false [
     ⟨some 8, (.lit true (.f .f32 [])), [], none⟩,
     ⟨some 3, .mv, [.t 8], none⟩])
    (.seq
     (.seq
      (.region false [
       ⟨some 9, .mv, [.t 0], none⟩,
       ⟨some 10, .len, [.t 9], none⟩,
       ⟨some 11, .mv, [.k (.i .i64 0)], none⟩])
      (.block 0 (.loop (b_impl_ranks_L0 g_impl_around))))
     (.seq
      (.region false [
       ⟨some 30, .mv, [.t 3], none⟩,
       ⟨some 2, .mv, [.t 30], none⟩])
      .ret))))

abbrev Is_impl_ranks (P : Program) (g_f : FuncId) (g_impl_around : FuncId) : Prop := FnIs P g_f 31 [.t 2] (b_impl_ranks g_impl_around)

abbrev C_impl_ranks (P : Program) (g_f : FuncId) : Prop := ∀ (xs : List Nat) (hn : seriesM xs = true) (hx : xs.length ≤ 96), VCall P g_f [PS [0] .f32 xs] (OS 0 .f32 (ranksM xs))
def oc1_impl_ranks (as : List AV) : T AV := match as with | [.sl _ _ (.f .f32 xs)] => .leaf (OS 0 .f32 (ranksM xs)) | _ => .fail
def oc_impl_ranks (xs : List Nat) (d : Nat) (as : List AV) : T AV := match d with | 18 => oc1_impl_around as | _ => .fail
def h_impl_ranks_L0 (xs : List Nat) (out : List Nat) (v11 : Int) : Env := [AV.sl (Tag.par [0]) 0 (Cont.f FloatKind.f32 xs), .any, .any, .sl (Tag.own 64) 0 (.f FloatKind.f32 out)] ++ anys 5 ++ [AV.sl (Tag.par [0]) 0 (Cont.f FloatKind.f32 xs), AV.i IntKind.i64 (↑(List.length xs) : Int), .i IntKind.i64 v11] ++ anys 19

theorem q_impl_ranks_L0 {VC : FuncId → List AV → AV → Prop} {g_impl_around : FuncId} (xs : List Nat) (out : List Nat) (v11 : Int) {e_ : Ex} {σ_ : Env} (ht : T.ok (fun x_ => x_ = (e_, σ_)) (
      T.ite (decide (v11 < (↑(List.length xs) : Int)))
        (T.ob (0 ≤ v11 ∧ v11 < (↑(List.length xs) : Int))
          (T.ob
            (VC g_impl_around [AV.sl (Tag.par [0]) 0 (Cont.f FloatKind.f32 xs), AV.f FloatKind.f32 (List.getD xs (Int.toNat v11) 0)]
              (AV.tup [AV.f FloatKind.f32 (fofi FloatKind.f32 (belowM xs (List.getD xs (Int.toNat v11) 0))), AV.f FloatKind.f32 (fofi FloatKind.f32 (equalM xs (List.getD xs (Int.toNat v11) 0)))]))
            (T.ob True
              (T.ob
                (List.length out +
                    List.length
                      [fadd FloatKind.f32 (fofi FloatKind.f32 (belowM xs (List.getD xs (Int.toNat v11) 0)))
                          (fdiv FloatKind.f32 (fsub FloatKind.f32 (fofi FloatKind.f32 (equalM xs (List.getD xs (Int.toNat v11) 0))) 1065353216) 1073741824)] ≤
                  4294967296)
                (T.leaf
                  (Ex.normal,
                    h_impl_ranks_L0 xs
                      (out ++
                        [fadd FloatKind.f32 (fofi FloatKind.f32 (belowM xs (List.getD xs (Int.toNat v11) 0)))
                            (fdiv FloatKind.f32 (fsub FloatKind.f32 (fofi FloatKind.f32 (equalM xs (List.getD xs (Int.toNat v11) 0))) 1065353216) 1073741824)])
                      (IntKind.wrap IntKind.i64 (v11 + 1))))))))
        (T.leaf (Ex.exit 0, h_impl_ranks_L0 xs out v11)))) :
    Exec VC ps_impl_ranks (b_impl_ranks_L0 g_impl_around) (h_impl_ranks_L0 xs out v11) e_ σ_ := evL_of (lv := lv_impl_ranks_L0) (rs := [2]) (O := ⟨oc_impl_ranks xs, fun _ _ => none⟩) (by kernel_rfl) ht

theorem q_impl_ranks {P : Program} {g_f : FuncId} {g_impl_around : FuncId} (h_ : Is_impl_ranks P g_f g_impl_around) (xs : List Nat) (ht : T.ok (fun x_ => x_ = OS 0 .f32 (ranksM xs)) (
      T.ob (Exec (VCall P) ps_impl_ranks (VCode.block 0 (VCode.loop (b_impl_ranks_L0 g_impl_around))) (h_impl_ranks_L0 xs [] 0) Ex.normal (h_impl_ranks_L0 xs (ranksM xs) (↑(List.length xs) : Int)))
        (T.leaf (AV.sl (Tag.own 0) 0 (Cont.f FloatKind.f32 (ranksM xs)))))) :
    VCall P g_f [PS [0] .f32 xs] (OS 0 .f32 (ranksM xs)) := h_.call_of ps_impl_ranks ⟨oc_impl_ranks xs, fun id σ => match id with | 0 => some (lv_impl_ranks_L0, .leaf (.normal, h_impl_ranks_L0 xs (ranksM xs) xs.length)) | _ => none⟩ (by kernel_rfl) ht

-- END impl_ranks


def rlM (a b : List Nat) : Nat := fdiv .f32 (dotM (offM (ranksM a)) (offM (ranksM b))) (rootM (bothM (ranksM a) (ranksM b)))
def rlOk (a b : List Nat) : Bool := twoM a b && (fgt .f32 (bothM (ranksM a) (ranksM b)) 0 && finM (rlM a b))

-- FN impl_RankLike
/-- impl.RankLike: slots 44, results [.t 4, .t 5]; calls [11:g_impl_areTwo, 14:g_impl_ranks, 16:g_impl_ranks, 19:g_impl_mean, 20:g_impl_lessOne, 23:g_impl_mean, 24:g_impl_lessOne, 27:g_impl_dot, 30:g_impl_dot, 37:g_impl_dot, 39:g_impl_RootNumber, 41:g_impl_ifFinite]; names [(a, 0), (b, 1), (a, 2), (b, 3), (x, 6), (y, 7), (both, 8)] -/
def ps_impl_RankLike : List Nat := [0, 1, 4, 5, 6, 7, 8, 12, 34]
def b_impl_RankLike (g_impl_areTwo g_impl_ranks g_impl_mean g_impl_lessOne g_impl_dot g_impl_RootNumber g_impl_ifFinite : FuncId) : VCode :=
  (.seq
   (.region false [
    ⟨some 4, .mv, [.k (.f .f32 0)], none⟩,
    ⟨some 5, .mv, [.k (.b false)], none⟩])
   (.seq
    (.seq
     (.region false [
      ⟨some 9, .mv, [.t 0], none⟩,
      ⟨some 10, .mv, [.t 1], none⟩,
      ⟨some 11, (.call g_impl_areTwo), [.t 9, .t 10], none⟩,
      ⟨some 12, .not, [.t 11], none⟩])
     (.cond (.t 12)
      (.seq
       (.region false [
        ⟨some 4, .mv, [.k (.f .f32 0)], none⟩,
        ⟨some 5, .mv, [.k (.b false)], none⟩])
       .ret)
      .skip))
    (.seq
     (.region false [
      ⟨some 13, .mv, [.t 0], none⟩,
      ⟨some 14, (.call g_impl_ranks), [.t 13], none⟩,
      ⟨some 15, .mv, [.t 1], none⟩,
      ⟨some 16, (.call g_impl_ranks), [.t 15], none⟩,
      ⟨some 6, .mv, [.t 14], none⟩,
      ⟨some 7, .mv, [.t 16], none⟩])
     (.seq
      (.region false [
       ⟨some 17, .mv, [.t 6], none⟩,
       ⟨some 18, .mv, [.t 6], none⟩,
       ⟨some 19, (.call g_impl_mean), [.t 18], none⟩,
       ⟨some 20, (.call g_impl_lessOne), [.t 17, .t 19], none⟩,
       ⟨some 21, .mv, [.t 7], none⟩,
       ⟨some 22, .mv, [.t 7], none⟩,
       ⟨some 23, (.call g_impl_mean), [.t 22], none⟩,
       ⟨some 24, (.call g_impl_lessOne), [.t 21, .t 23], none⟩,
       ⟨some 6, .mv, [.t 20], none⟩,
       ⟨some 7, .mv, [.t 24], none⟩])
      (.seq
       (.region false [
        ⟨some 25, .mv, [.t 6], none⟩,
        ⟨some 26, .mv, [.t 6], none⟩,
        ⟨some 27, (.call g_impl_dot), [.t 25, .t 26], none⟩,
        ⟨some 28, .mv, [.t 7], none⟩,
        ⟨some 29, .mv, [.t 7], none⟩,
        ⟨some 30, (.call g_impl_dot), [.t 28, .t 29], none⟩,
        ⟨some 31, (.bin .mul), [.t 27, .t 30], none⟩,
        ⟨some 8, .mv, [.t 31], none⟩])
       (.seq
        (.seq
         (.region false [
          ⟨some 32, .mv, [.t 8], none⟩,
          ⟨some 33, (.bin .gtr), [.t 32, .k (.f .f32 0)], none⟩,
          ⟨some 34, .not, [.t 33], none⟩])
         (.cond (.t 34)
          (.seq
           (.region false [
            ⟨some 4, .mv, [.k (.f .f32 0)], none⟩,
            ⟨some 5, .mv, [.k (.b false)], none⟩])
           .ret)
          .skip))
        (.seq
         (.region false [
          ⟨some 35, .mv, [.t 6], none⟩,
          ⟨some 36, .mv, [.t 7], none⟩,
          ⟨some 37, (.call g_impl_dot), [.t 35, .t 36], none⟩,
          ⟨some 38, .mv, [.t 8], none⟩,
          ⟨some 39, (.call g_impl_RootNumber), [.t 38], none⟩,
          ⟨some 40, (.bin .quo), [.t 37, .t 39], none⟩,
          ⟨some 41, (.call g_impl_ifFinite), [.t 40], none⟩,
          ⟨some 42, (.extract 0), [.t 41], none⟩,
          ⟨some 43, (.extract 1), [.t 41], none⟩,
          ⟨some 4, .mv, [.t 42], none⟩,
          ⟨some 5, .mv, [.t 43], none⟩])
         .ret)))))))

abbrev Is_impl_RankLike (P : Program) (g_f : FuncId) (g_impl_areTwo g_impl_ranks g_impl_mean g_impl_lessOne g_impl_dot g_impl_RootNumber g_impl_ifFinite : FuncId) : Prop := FnIs P g_f 44 [.t 4, .t 5] (b_impl_RankLike g_impl_areTwo g_impl_ranks g_impl_mean g_impl_lessOne g_impl_dot g_impl_RootNumber g_impl_ifFinite)

abbrev C_impl_RankLike (P : Program) (g_f : FuncId) : Prop := ∀ (a : List Nat) (b : List Nat) (hx : a.length ≤ maxLen) (hy : b.length ≤ maxLen), VCall P g_f [PS [0] .f32 a, PS [1] .f32 b] (.tup [.f .f32 (if rlOk a b = true then rlM a b else 0), .b (rlOk a b)])
def oc1_impl_RankLike (as : List AV) : T AV := match as with | [.sl _ _ (.f .f32 a), .sl _ _ (.f .f32 b)] => .leaf (.tup [.f .f32 (if rlOk a b = true then rlM a b else 0), .b (rlOk a b)]) | _ => .fail
def oc_impl_RankLike (a : List Nat) (b : List Nat) (d : Nat) (as : List AV) : T AV := match d with | 11 => oc1_impl_areTwo as | 14 => oc1_impl_ranks as | 16 => oc1_impl_ranks as | 19 => oc1_impl_mean as | 20 => oc1_impl_lessOne as | 23 => oc1_impl_mean as | 24 => oc1_impl_lessOne as | 27 => oc1_impl_dot as | 30 => oc1_impl_dot as | 37 => oc1_impl_dot as | 39 => oc1_impl_RootNumber as | 41 => oc1_impl_ifFinite as | _ => .fail



theorem q_impl_RankLike {P : Program} {g_f : FuncId} {g_impl_areTwo g_impl_ranks g_impl_mean g_impl_lessOne g_impl_dot g_impl_RootNumber g_impl_ifFinite : FuncId} (h_ : Is_impl_RankLike P g_f g_impl_areTwo g_impl_ranks g_impl_mean g_impl_lessOne g_impl_dot g_impl_RootNumber g_impl_ifFinite) (a : List Nat) (b : List Nat) (ht : T.ok (fun x_ => x_ = .tup [.f .f32 (if rlOk a b = true then rlM a b else 0), .b (rlOk a b)]) (
      T.ob ((VCall P) g_impl_areTwo [AV.sl (Tag.par [0]) 0 (Cont.f FloatKind.f32 a), AV.sl (Tag.par [1]) 0 (Cont.f FloatKind.f32 b)] (AV.b (twoM a b)))
        (T.ite (!twoM a b) (T.leaf (AV.tup [AV.f FloatKind.f32 0, AV.b false]))
          (T.ob ((VCall P) g_impl_ranks [AV.sl (Tag.par [0]) 0 (Cont.f FloatKind.f32 a)] (AV.sl (Tag.own 0) 0 (Cont.f FloatKind.f32 (ranksM a))))
            (T.ob ((VCall P) g_impl_ranks [AV.sl (Tag.par [0]) 0 (Cont.f FloatKind.f32 b)] (AV.sl (Tag.own 0) 0 (Cont.f FloatKind.f32 (ranksM b))))
              (T.ob ((VCall P) g_impl_mean [AV.sl (Tag.par [0]) 0 (Cont.f FloatKind.f32 (ranksM a))] (AV.f FloatKind.f32 (meanM (ranksM a))))
                (T.ob ((VCall P) g_impl_lessOne [AV.sl (Tag.par [0]) 0 (Cont.f FloatKind.f32 (ranksM a)), AV.f FloatKind.f32 (meanM (ranksM a))] (AV.sl (Tag.own 0) 0 (Cont.f FloatKind.f32 (lessOneM (ranksM a) (meanM (ranksM a))))))
                  (T.ob ((VCall P) g_impl_mean [AV.sl (Tag.par [0]) 0 (Cont.f FloatKind.f32 (ranksM b))] (AV.f FloatKind.f32 (meanM (ranksM b))))
                    (T.ob
                      ((VCall P) g_impl_lessOne [AV.sl (Tag.par [0]) 0 (Cont.f FloatKind.f32 (ranksM b)), AV.f FloatKind.f32 (meanM (ranksM b))] (AV.sl (Tag.own 0) 0 (Cont.f FloatKind.f32 (lessOneM (ranksM b) (meanM (ranksM b))))))
                      (T.ob
                        ((VCall P) g_impl_dot [AV.sl (Tag.par [0]) 0 (Cont.f FloatKind.f32 (lessOneM (ranksM a) (meanM (ranksM a)))), AV.sl (Tag.par [1]) 0 (Cont.f FloatKind.f32 (lessOneM (ranksM a) (meanM (ranksM a))))]
                          (AV.f FloatKind.f32 (dotM (lessOneM (ranksM a) (meanM (ranksM a))) (lessOneM (ranksM a) (meanM (ranksM a))))))
                        (T.ob
                          ((VCall P) g_impl_dot [AV.sl (Tag.par [0]) 0 (Cont.f FloatKind.f32 (lessOneM (ranksM b) (meanM (ranksM b)))), AV.sl (Tag.par [1]) 0 (Cont.f FloatKind.f32 (lessOneM (ranksM b) (meanM (ranksM b))))]
                            (AV.f FloatKind.f32 (dotM (lessOneM (ranksM b) (meanM (ranksM b))) (lessOneM (ranksM b) (meanM (ranksM b))))))
                          (T.ite
                            (!fgt FloatKind.f32
                                (fmul FloatKind.f32 (dotM (lessOneM (ranksM a) (meanM (ranksM a))) (lessOneM (ranksM a) (meanM (ranksM a))))
                                  (dotM (lessOneM (ranksM b) (meanM (ranksM b))) (lessOneM (ranksM b) (meanM (ranksM b)))))
                                0)
                            (T.leaf (AV.tup [AV.f FloatKind.f32 0, AV.b false]))
                            (T.ob
                              ((VCall P) g_impl_dot [AV.sl (Tag.par [0]) 0 (Cont.f FloatKind.f32 (lessOneM (ranksM a) (meanM (ranksM a)))), AV.sl (Tag.par [1]) 0 (Cont.f FloatKind.f32 (lessOneM (ranksM b) (meanM (ranksM b))))]
                                (AV.f FloatKind.f32 (dotM (lessOneM (ranksM a) (meanM (ranksM a))) (lessOneM (ranksM b) (meanM (ranksM b))))))
                              (T.ob
                                ((VCall P) g_impl_RootNumber
                                  [AV.f FloatKind.f32
                                      (fmul FloatKind.f32 (dotM (lessOneM (ranksM a) (meanM (ranksM a))) (lessOneM (ranksM a) (meanM (ranksM a))))
                                        (dotM (lessOneM (ranksM b) (meanM (ranksM b))) (lessOneM (ranksM b) (meanM (ranksM b)))))]
                                  (AV.f FloatKind.f32
                                    (rootM
                                      (fmul FloatKind.f32 (dotM (lessOneM (ranksM a) (meanM (ranksM a))) (lessOneM (ranksM a) (meanM (ranksM a))))
                                        (dotM (lessOneM (ranksM b) (meanM (ranksM b))) (lessOneM (ranksM b) (meanM (ranksM b))))))))
                                (T.ob True
                                  (T.ob
                                    ((VCall P) g_impl_ifFinite
                                      [AV.f FloatKind.f32
                                          (fdiv FloatKind.f32 (dotM (lessOneM (ranksM a) (meanM (ranksM a))) (lessOneM (ranksM b) (meanM (ranksM b))))
                                            (rootM
                                              (fmul FloatKind.f32 (dotM (lessOneM (ranksM a) (meanM (ranksM a))) (lessOneM (ranksM a) (meanM (ranksM a))))
                                                (dotM (lessOneM (ranksM b) (meanM (ranksM b))) (lessOneM (ranksM b) (meanM (ranksM b)))))))]
                                      (AV.tup
                                        [AV.f FloatKind.f32
                                            (numM
                                              (fdiv FloatKind.f32 (dotM (lessOneM (ranksM a) (meanM (ranksM a))) (lessOneM (ranksM b) (meanM (ranksM b))))
                                                (rootM
                                                  (fmul FloatKind.f32 (dotM (lessOneM (ranksM a) (meanM (ranksM a))) (lessOneM (ranksM a) (meanM (ranksM a))))
                                                    (dotM (lessOneM (ranksM b) (meanM (ranksM b))) (lessOneM (ranksM b) (meanM (ranksM b)))))))),
                                          AV.b
                                            (finM
                                              (fdiv FloatKind.f32 (dotM (lessOneM (ranksM a) (meanM (ranksM a))) (lessOneM (ranksM b) (meanM (ranksM b))))
                                                (rootM
                                                  (fmul FloatKind.f32 (dotM (lessOneM (ranksM a) (meanM (ranksM a))) (lessOneM (ranksM a) (meanM (ranksM a))))
                                                    (dotM (lessOneM (ranksM b) (meanM (ranksM b))) (lessOneM (ranksM b) (meanM (ranksM b))))))))]))
                                    (T.leaf
                                      (AV.tup
                                        [AV.f FloatKind.f32
                                            (numM
                                              (fdiv FloatKind.f32 (dotM (lessOneM (ranksM a) (meanM (ranksM a))) (lessOneM (ranksM b) (meanM (ranksM b))))
                                                (rootM
                                                  (fmul FloatKind.f32 (dotM (lessOneM (ranksM a) (meanM (ranksM a))) (lessOneM (ranksM a) (meanM (ranksM a))))
                                                    (dotM (lessOneM (ranksM b) (meanM (ranksM b))) (lessOneM (ranksM b) (meanM (ranksM b)))))))),
                                          AV.b
                                            (finM
                                              (fdiv FloatKind.f32 (dotM (lessOneM (ranksM a) (meanM (ranksM a))) (lessOneM (ranksM b) (meanM (ranksM b))))
                                                (rootM
                                                  (fmul FloatKind.f32 (dotM (lessOneM (ranksM a) (meanM (ranksM a))) (lessOneM (ranksM a) (meanM (ranksM a))))
                                                    (dotM (lessOneM (ranksM b) (meanM (ranksM b))) (lessOneM (ranksM b) (meanM (ranksM b))))))))])))))))))))))))))) :
    VCall P g_f [PS [0] .f32 a, PS [1] .f32 b] (.tup [.f .f32 (if rlOk a b = true then rlM a b else 0), .b (rlOk a b)]) := h_.call_of ps_impl_RankLike ⟨oc_impl_RankLike a b, fun _ _ => none⟩ (by kernel_rfl) ht

-- END impl_RankLike


/-! ### likenesses of two series -/
theorem cross_len (a b : List Nat) (m : Nat) : (crossM a b m).length = 2 * m + 1 := tab_len _ _
theorem cdel_dot (a b : List Nat) (h : a.length ≤ b.length) : cdelM a b 0 = dotM a b := by
  unfold cdelM dotM
  refine accN_congr fun i s hi => ?_
  rw [if_pos (by omega), Int.add_zero, Int.toNat_natCast]
theorem k_impl_CrossLikes {P : Program} {f g1 g2 g3 g4 g5 g6 g7 : FuncId} (h : Is_impl_CrossLikes P f g1 g2 g3 g4 g5 g6 g7) (c1 : C_impl_areTwo P g1) (c2 : C_impl_isMost P g2) (c3 : C_impl_mean P g3) (c4 : C_impl_lessOne P g4) (c5 : C_impl_dot P g5) (c6 : C_impl_RootNumber P g6) (c7 : C_impl_ifAll P g7) : C_impl_CrossLikes P f := by
  intro a b most hx hy
  have eb : fmul .f32 (dotM (lessOneM a (meanM a)) (lessOneM a (meanM a))) (dotM (lessOneM b (meanM b)) (lessOneM b (meanM b))) = bothM a b := rfl
  have la := off_len a
  have lb := off_len b
  refine q_impl_CrossLikes h a b most ?_
  rw [eb]
  refine ⟨c1 _ _ hx hy, fun _ => ⟨fun h0 => ?_, fun h0 => ⟨c2 _ _ hx, fun _ => ⟨fun h1 => ?_, fun h1 => ?_⟩⟩⟩⟩
  · simp at h0; simp [T.ok, crossOk, h0]
  · have : crossOk a b most = false := by
      unfold crossOk
      revert h1
      cases hs : seriesM a <;> cases inM most 0 16 <;> cases decide (most < (a.length : Int)) <;> simp [twoM, hs]
    simp [T.ok, this]
  · simp only [Bool.not_eq_false'] at h0 h1
    have hl := two_len h0
    simp only [Bool.and_eq_true, decide_eq_true_eq] at h1
    have hi : 0 ≤ most ∧ most ≤ 16 := by simpa [inM] using h1.2.1
    have hm := h1.2.2
    have hok : crossOk a b most = (fgt .f32 (bothM a b) 0 && finAllM (crossM a b most.toNat)) := by unfold crossOk; rw [h0, h1.2.1, decide_eq_true h1.2.2]; simp
    obtain ⟨m, rfl⟩ : ∃ m : Nat, most = m := ⟨most.toNat, by omega⟩
    rw [Int.toNat_natCast] at hok ⊢
    refine ⟨c3 _ hx, fun _ => ⟨c4 _ _ (by omega), fun _ => ⟨c3 _ hy, fun _ => ⟨c4 _ _ (by omega), fun _ => ⟨c5 _ _ (Nat.le_refl _) (by rw [lessOne_len, maxLen_eq]; omega), fun _ => ⟨c5 _ _ (Nat.le_refl _) (by rw [lessOne_len, maxLen_eq]; omega), fun _ => ⟨fun h2 => ?_, fun h2 => ⟨c6 _, fun _ => ⟨?_, fun _ => ⟨c7 _ (by rw [cross_len, maxLen_eq]; omega), fun _ => ?_⟩⟩⟩⟩⟩⟩⟩⟩⟩⟩
    · simp only [Bool.not_eq_true'] at h2
      simp [T.ok, hok, h2]
    · have e0 : IntKind.wrap .i64 (0 - (m : Int)) = -(m : Int) := by rw [wrap64_id (by omega) (by omega)]; omega
      rw [e0]
      refine for_up (e := .exit 0) (2 * m + 1) (fun i => h_impl_CrossLikes_L0 a b m (offM a) (offM b) (tab i fun j => fdiv .f32 (cdelM (offM a) (offM b) ((j : Int) - m)) (rootM (bothM a b))) ((i : Int) - m)) (by first | (simp [tab]; done) | (simp [tab]; rfl)) (fun i hi => ?_) ?_
      · refine q_impl_CrossLikes_L0 _ _ _ _ _ _ _ ?_
        rw [eb]
        have fin : Exec (VCall P) ps_impl_CrossLikes (.block 2 (.loop (b_impl_CrossLikes_L2 g1 g2 g3 g4 g5 g6 g7))) (h_impl_CrossLikes_L2 a b m (offM a) (offM b) (tab i fun j => fdiv .f32 (cdelM (offM a) (offM b) ((j : Int) - m)) (rootM (bothM a b))) ((i : Int) - m) 0 0) .normal
            (h_impl_CrossLikes_L2 a b m (offM a) (offM b) (tab i fun j => fdiv .f32 (cdelM (offM a) (offM b) ((j : Int) - m)) (rootM (bothM a b))) ((i : Int) - m) (cdelM (offM a) (offM b) ((i : Int) - m)) (offM a).length) := by
          generalize hT : (tab i fun j => fdiv .f32 (cdelM (offM a) (offM b) ((j : Int) - m)) (rootM (bothM a b))) = T0
          refine for_up (e := .exit 2) (offM a).length (fun k => h_impl_CrossLikes_L2 a b m (offM a) (offM b) T0 ((i : Int) - m) (accN (fun j s => if 0 ≤ (j : Int) + ((i : Int) - m) ∧ (j : Int) + ((i : Int) - m) < (offM b).length then fadd .f32 s (fmul .f32 ((offM a).getD j 0) ((offM b).getD ((j : Int) + ((i : Int) - m)).toNat 0)) else s) k 0) k) rfl (fun k hk => ?_) ?_
          · refine q_impl_CrossLikes_L2 _ _ _ _ _ _ _ _ _ ?_
            rw [wrap64_id (n := (k : Int) + ((i : Int) - m)) (by omega) (by omega)]
            simp only [accN]
            generalize accN (fun j s => if 0 ≤ (j : Int) + ((i : Int) - m) ∧ (j : Int) + ((i : Int) - m) < (offM b).length then fadd .f32 s (fmul .f32 ((offM a).getD j 0) ((offM b).getD ((j : Int) + ((i : Int) - m)).toNat 0)) else s) k 0 = S
            by_cases h1 : 0 ≤ (k : Int) + ((i : Int) - m) ∧ (k : Int) + ((i : Int) - m) < (offM b).length
            · rw [if_pos h1]
              repeat' (first | with_reducible refine T.ok_ob ?_ (fun _ => ?_) | with_reducible refine T.ok_ite (fun _ => ?_) (fun _ => ?_) | with_reducible refine T.ok_leaf ?_)
              all_goals (try simp only [decide_eq_true_eq, decide_eq_false_iff_not, Bool.not_eq_true', Bool.not_eq_false', Bool.not_eq_eq_eq_not, Bool.not_true, Bool.not_false, Int.toNat_natCast, tab_len, List.length_append, List.length_singleton, List.length_cons, List.length_nil, List.length_drop, List.length_take, getD_drop', getD_nat, reduceCtorEq] at *)
              all_goals (try simp (disch := omega) only [wrap64_id] at *)
              all_goals first | omega | (exfalso; omega) | trivial | contradiction | (exfalso; simp_all; done) | skip
              all_goals rfl
            · rw [if_neg h1]
              repeat' (first | with_reducible refine T.ok_ob ?_ (fun _ => ?_) | with_reducible refine T.ok_ite (fun _ => ?_) (fun _ => ?_) | with_reducible refine T.ok_leaf ?_)
              all_goals (try simp only [decide_eq_true_eq, decide_eq_false_iff_not, Bool.not_eq_true', Bool.not_eq_false', Bool.not_eq_eq_eq_not, Bool.not_true, Bool.not_false, Int.toNat_natCast, tab_len, List.length_append, List.length_singleton, List.length_cons, List.length_nil, List.length_drop, List.length_take, getD_drop', getD_nat, reduceCtorEq] at *)
              all_goals (try simp (disch := omega) only [wrap64_id] at *)
              all_goals first | omega | (exfalso; omega) | trivial | contradiction | (exfalso; simp_all; done) | skip
              all_goals rfl
          · refine q_impl_CrossLikes_L2 _ _ _ _ _ _ _ _ _ ?_
            repeat' (first | with_reducible refine T.ok_ob ?_ (fun _ => ?_) | with_reducible refine T.ok_ite (fun _ => ?_) (fun _ => ?_) | with_reducible refine T.ok_leaf ?_)
            all_goals (try simp only [decide_eq_true_eq, decide_eq_false_iff_not, Bool.not_eq_true', Bool.not_eq_false', Bool.not_eq_eq_eq_not, Bool.not_true, Bool.not_false, Int.toNat_natCast, tab_len, List.length_append, List.length_singleton, List.length_cons, List.length_nil, List.length_drop, List.length_take, getD_drop', getD_nat, reduceCtorEq] at *)
            all_goals (try simp (disch := omega) only [wrap64_id] at *)
            all_goals first | omega | (exfalso; omega) | trivial | contradiction | (exfalso; simp_all; done) | skip
            all_goals rfl
        have ew : IntKind.wrap .i64 ((i : Int) - m + 1) = ((i + 1 : Nat) : Int) - m := by rw [wrap64_id (by omega) (by omega)]; omega
        rw [ew]
        repeat' (first | with_reducible refine T.ok_ob ?_ (fun _ => ?_) | with_reducible refine T.ok_ite (fun _ => ?_) (fun _ => ?_) | with_reducible refine T.ok_leaf ?_)
        all_goals (try simp only [decide_eq_true_eq, decide_eq_false_iff_not, Bool.not_eq_true', Bool.not_eq_false', Bool.not_eq_eq_eq_not, Bool.not_true, Bool.not_false, Int.toNat_natCast, tab_len, List.length_append, List.length_singleton, List.length_cons, List.length_nil, List.length_drop, List.length_take, getD_drop', getD_nat, reduceCtorEq] at *)
        all_goals (try simp (disch := omega) only [wrap64_id] at *)
        all_goals first | omega | (exfalso; omega) | trivial | contradiction | (exfalso; simp_all; done) | skip
        all_goals first | exact fin | (rw [tab_succ]; done) | (rw [tab_succ]; rfl) | (simp [tab_len]; omega)
      · refine q_impl_CrossLikes_L0 _ _ _ _ _ _ _ ?_
        rw [show (((2 * m + 1 : Nat) : Int) - m) = (m : Int) + 1 by omega]
        repeat' (first | with_reducible refine T.ok_ob ?_ (fun _ => ?_) | with_reducible refine T.ok_ite (fun _ => ?_) (fun _ => ?_) | with_reducible refine T.ok_leaf ?_)
        all_goals (try simp only [decide_eq_true_eq, decide_eq_false_iff_not, Bool.not_eq_true', Bool.not_eq_false', Bool.not_eq_eq_eq_not, Bool.not_true, Bool.not_false, Int.toNat_natCast, tab_len, List.length_append, List.length_singleton, List.length_cons, List.length_nil, List.length_drop, List.length_take, getD_drop', getD_nat, reduceCtorEq] at *)
        all_goals (try simp (disch := omega) only [wrap64_id] at *)
        all_goals first | omega | (exfalso; omega) | trivial | contradiction | (exfalso; simp_all; done) | skip
        all_goals rfl
    · simp only [Bool.not_eq_false'] at h2
      rw [h2, Bool.true_and] at hok
      simp [T.ok, hok, ifAllM]
theorem k_spec_CrossLikes {P : Program} {f g1 g2 g3 g4 g5 g6 : FuncId} (h : Is_spec_CrossLikes P f g1 g2 g3 g4 g5 g6) (c1 : C_spec_l02Series P g1) (c2 : C_spec_l00In P g2) (c3 : C_spec_l03Off P g3) (c4 : C_spec_l03Delayed P g4) (c5 : C_spec_l01Sqrt P g5) (c6 : C_spec_l03Given P g6) : C_spec_CrossLikes P f := by
  intro a b most hx hy
  have la := off_len a
  have lb := off_len b
  refine q_spec_CrossLikes h a b most ?_
  rw [cdel_dot (offM a) (offM a) (Nat.le_refl _), cdel_dot (offM b) (offM b) (Nat.le_refl _), show fmul .f32 (dotM (offM a) (offM a)) (dotM (offM b) (offM b)) = bothM a b from rfl, root_gt]
  refine ⟨c1 _ hx, fun _ => ⟨fun h0 => ?_, fun h0 => ⟨c1 _ hy, fun _ => ⟨fun h1 => ?_, fun h1 => ⟨fun h2 => ?_, fun h2 => ⟨c2 _ _ _, fun _ => ⟨fun h3 => ?_, fun h3 => ⟨fun h4 => ?_, fun h4 => ?_⟩⟩⟩⟩⟩⟩⟩⟩
  · simp at h0; simp [T.ok, crossOk, twoM, h0]
  · simp at h1; simp [T.ok, crossOk, twoM, h1]
  · have : ((a.length : Int) == (b.length : Int)) = false := by simpa using h2
    simp [T.ok, crossOk, twoM, this]
  · simp at h3; simp [T.ok, crossOk, h3]
  · have : ¬ (most < (a.length : Int)) := by have := of_decide_eq_true h4; omega
    simp [T.ok, crossOk, this]
  · simp only [Bool.not_eq_false'] at h0 h1 h3
    have h4 := of_decide_eq_false h4
    have h2' : ((a.length : Int) == (b.length : Int)) = true := by simpa using h2
    have hl := series_len h0
    have he : (a.length : Int) = b.length := by simpa using h2'
    have htw : twoM a b = true := by unfold twoM; rw [h0, h1, h2']; rfl
    have hi : 0 ≤ most ∧ most ≤ 16 := by simpa [inM] using h3
    have hok : crossOk a b most = (fgt .f32 (bothM a b) 0 && finAllM (crossM a b most.toNat)) := by unfold crossOk; rw [htw, h3, decide_eq_true (show most < (a.length : Int) by omega)]; simp
    obtain ⟨m, rfl⟩ : ∃ m : Nat, most = m := ⟨most.toNat, by omega⟩
    rw [Int.toNat_natCast] at hok ⊢
    have a4 := c4 (offM a) (offM a) 0 (by omega) (by omega) (by omega)
    have b4 := c4 (offM b) (offM b) 0 (by omega) (by omega) (by omega)
    rw [cdel_dot _ _ (Nat.le_refl _)] at a4 b4
    refine ⟨c3 _ (by omega), fun _ => ⟨c3 _ (by omega), fun _ => ⟨a4, fun _ => ⟨b4, fun _ => ⟨c5 _, fun _ => ⟨fun h5 => ?_, fun h5 => ⟨?_, fun _ => ⟨c6 _ (by rw [cross_len, maxLen_eq]; omega), fun _ => ?_⟩⟩⟩⟩⟩⟩⟩⟩
    · simp only [Bool.not_eq_true'] at h5
      simp [T.ok, hok, h5]
    · have e0 : IntKind.wrap .i64 (0 - (m : Int)) = -(m : Int) := by rw [wrap64_id (by omega) (by omega)]; omega
      rw [e0]
      refine for_up (e := .exit 0) (2 * m + 1) (fun i => h_spec_CrossLikes_L0 a b m (offM a) (offM b) (tab i fun j => fdiv .f32 (cdelM (offM a) (offM b) ((j : Int) - m)) (rootM (bothM a b))) ((i : Int) - m)) (by first | (simp [tab]; done) | (simp [tab]; rfl)) (fun i hi => ?_) ?_
      · refine q_spec_CrossLikes_L0 _ _ _ _ _ _ _ ?_
        rw [cdel_dot (offM a) (offM a) (Nat.le_refl _), cdel_dot (offM b) (offM b) (Nat.le_refl _), show fmul .f32 (dotM (offM a) (offM a)) (dotM (offM b) (offM b)) = bothM a b from rfl]
        have a4 := c4 (offM a) (offM b) ((i : Int) - m) (by omega) (by omega) (by omega)
        have ew : IntKind.wrap .i64 ((i : Int) - m + 1) = ((i + 1 : Nat) : Int) - m := by rw [wrap64_id (by omega) (by omega)]; omega
        rw [ew]
        repeat' (first | with_reducible refine T.ok_ob ?_ (fun _ => ?_) | with_reducible refine T.ok_ite (fun _ => ?_) (fun _ => ?_) | with_reducible refine T.ok_leaf ?_)
        all_goals (try simp only [decide_eq_true_eq, decide_eq_false_iff_not, Bool.not_eq_true', Bool.not_eq_false', Bool.not_eq_eq_eq_not, Bool.not_true, Bool.not_false, Int.toNat_natCast, tab_len, List.length_append, List.length_singleton, List.length_cons, List.length_nil, List.length_drop, List.length_take, getD_drop', getD_nat, reduceCtorEq] at *)
        all_goals (try simp (disch := omega) only [wrap64_id] at *)
        all_goals first | omega | (exfalso; omega) | trivial | contradiction | (exfalso; simp_all; done) | skip
        all_goals first | exact a4 | (rw [tab_succ]; done) | (rw [tab_succ]; rfl) | (simp [tab_len]; omega)
      · refine q_spec_CrossLikes_L0 _ _ _ _ _ _ _ ?_
        rw [show (((2 * m + 1 : Nat) : Int) - m) = (m : Int) + 1 by omega]
        repeat' (first | with_reducible refine T.ok_ob ?_ (fun _ => ?_) | with_reducible refine T.ok_ite (fun _ => ?_) (fun _ => ?_) | with_reducible refine T.ok_leaf ?_)
        all_goals (try simp only [decide_eq_true_eq, decide_eq_false_iff_not, Bool.not_eq_true', Bool.not_eq_false', Bool.not_eq_eq_eq_not, Bool.not_true, Bool.not_false, Int.toNat_natCast, tab_len, List.length_append, List.length_singleton, List.length_cons, List.length_nil, List.length_drop, List.length_take, getD_drop', getD_nat, reduceCtorEq] at *)
        all_goals (try simp (disch := omega) only [wrap64_id] at *)
        all_goals first | omega | (exfalso; omega) | trivial | contradiction | (exfalso; simp_all; done) | skip
        all_goals rfl
    · simp only [Bool.not_eq_false'] at h5
      rw [h5, Bool.true_and] at hok
      simp [T.ok, hok, ifAllM]

/-! ### ranks -/
theorem sumN_one (p : Nat → Bool) (n : Nat) : 0 ≤ sumN n (fun k => if p k = true then (1 : Int) else 0) ∧ sumN n (fun k => if p k = true then (1 : Int) else 0) ≤ n := by
  induction n with
  | zero => simp [sumN]
  | succ n ih => simp only [sumN]; split <;> omega
theorem flt_feq {x y : Nat} (h : flt .f32 x y = true) : feq .f32 x y = false := by
  rw [flt_eq] at h
  rw [feq_eq]
  simp only [Bool.and_eq_true, decide_eq_true_eq] at h
  have : ¬ (srung .f32 x = srung .f32 y) := by omega
  simp [this]
theorem k_impl_around {P : Program} {f : FuncId} (h : Is_impl_around P f) : C_impl_around P f := by
  intro xs x hx
  refine q_impl_around h xs x ⟨?_, fun _ => ?_⟩
  · refine for_up (e := .exit 0) xs.length (fun i => h_impl_around_L0 xs x (sumN i fun k => if flt .f32 (xs.getD k 0) x = true then 1 else 0) (sumN i fun k => if feq .f32 (xs.getD k 0) x = true then 1 else 0) i) rfl (fun i hi => ?_) ?_
    · refine q_impl_around_L0 _ _ _ _ _ ?_
      have b1 := sumN_one (fun k => flt .f32 (xs.getD k 0) x) i
      have b2 := sumN_one (fun k => feq .f32 (xs.getD k 0) x) i
      simp only [sumN]
      generalize (sumN i fun k => if flt .f32 (xs.getD k 0) x = true then (1 : Int) else 0) = A at *
      generalize (sumN i fun k => if feq .f32 (xs.getD k 0) x = true then (1 : Int) else 0) = B at *
      rw [wrap64_id (n := A + 1) (by omega) (by omega), wrap64_id (n := B + 1) (by omega) (by omega)]
      simp only [Int.toNat_natCast]
      cases e1 : flt .f32 (xs.getD i 0) x <;> cases e2 : feq .f32 (xs.getD i 0) x
      · repeat' (first | with_reducible refine T.ok_ob ?_ (fun _ => ?_) | with_reducible refine T.ok_ite (fun _ => ?_) (fun _ => ?_) | with_reducible refine T.ok_leaf ?_)
        all_goals (try simp only [decide_eq_true_eq, decide_eq_false_iff_not, Bool.not_eq_true', Bool.not_eq_false', Bool.not_eq_eq_eq_not, Bool.not_true, Bool.not_false, Int.toNat_natCast, tab_len, List.length_append, List.length_singleton, List.length_cons, List.length_nil, List.length_drop, List.length_take, getD_drop', getD_nat, reduceCtorEq] at *)
        all_goals (try simp (disch := omega) only [wrap64_id] at *)
        all_goals first | omega | (exfalso; omega) | exact True.intro | skip
        all_goals first | (simp; done) | (simp; rfl)
      · repeat' (first | with_reducible refine T.ok_ob ?_ (fun _ => ?_) | with_reducible refine T.ok_ite (fun _ => ?_) (fun _ => ?_) | with_reducible refine T.ok_leaf ?_)
        all_goals (try simp only [decide_eq_true_eq, decide_eq_false_iff_not, Bool.not_eq_true', Bool.not_eq_false', Bool.not_eq_eq_eq_not, Bool.not_true, Bool.not_false, Int.toNat_natCast, tab_len, List.length_append, List.length_singleton, List.length_cons, List.length_nil, List.length_drop, List.length_take, getD_drop', getD_nat, reduceCtorEq] at *)
        all_goals (try simp (disch := omega) only [wrap64_id] at *)
        all_goals first | omega | (exfalso; omega) | exact True.intro | skip
        all_goals first | (simp; done) | (simp; rfl)
      · repeat' (first | with_reducible refine T.ok_ob ?_ (fun _ => ?_) | with_reducible refine T.ok_ite (fun _ => ?_) (fun _ => ?_) | with_reducible refine T.ok_leaf ?_)
        all_goals (try simp only [decide_eq_true_eq, decide_eq_false_iff_not, Bool.not_eq_true', Bool.not_eq_false', Bool.not_eq_eq_eq_not, Bool.not_true, Bool.not_false, Int.toNat_natCast, tab_len, List.length_append, List.length_singleton, List.length_cons, List.length_nil, List.length_drop, List.length_take, getD_drop', getD_nat, reduceCtorEq] at *)
        all_goals (try simp (disch := omega) only [wrap64_id] at *)
        all_goals first | omega | (exfalso; omega) | exact True.intro | skip
        all_goals first | (simp; done) | (simp; rfl)
      · rw [flt_feq e1] at e2; cases e2
    · refine q_impl_around_L0 _ _ _ _ _ ?_
      repeat' (first | with_reducible refine T.ok_ob ?_ (fun _ => ?_) | with_reducible refine T.ok_ite (fun _ => ?_) (fun _ => ?_) | with_reducible refine T.ok_leaf ?_)
      all_goals (try simp only [decide_eq_true_eq, decide_eq_false_iff_not, Bool.not_eq_true', Bool.not_eq_false', Bool.not_eq_eq_eq_not, Bool.not_true, Bool.not_false, Int.toNat_natCast, tab_len, List.length_append, List.length_singleton, List.length_cons, List.length_nil, List.length_drop, List.length_take, getD_drop', getD_nat, reduceCtorEq] at *)
      all_goals (try simp (disch := omega) only [wrap64_id] at *)
      all_goals first | omega | (exfalso; omega) | trivial | contradiction | (exfalso; simp_all; done) | skip
      all_goals rfl
  · simp [T.ok]
theorem half_ok : ∀ e : Fin 97, 1 ≤ e.val → fdiv .f32 (fsub .f32 (fofi .f32 (e.val : Int)) 1065353216) 1073741824 = fmul .f32 1056964608 (fofi .f32 ((e.val : Int) - 1)) := by decide +kernel
theorem feq_self {x : Nat} (h : finM x = true) : feq .f32 x x = true := by
  have := finM_nan h
  rw [feq_eq, this]; simp
theorem sumN_hit (p : Nat → Bool) : ∀ (n i : Nat), i < n → p i = true → 1 ≤ sumN n (fun k => if p k = true then (1 : Int) else 0)
  | 0, i, h, _ => by omega
  | n + 1, i, h, hp => by
    have := sumN_one p n
    simp only [sumN]
    by_cases hi : i = n
    · subst hi; rw [if_pos hp]; omega
    · have := sumN_hit p n i (by omega) hp
      split <;> omega
theorem equal_bound {xs : List Nat} (hs : seriesM xs = true) {i : Nat} (hi : i < xs.length) : 1 ≤ equalM xs (xs.getD i 0) ∧ equalM xs (xs.getD i 0) ≤ xs.length :=
  ⟨sumN_hit (fun k => feq .f32 (xs.getD k 0) (xs.getD i 0)) xs.length i hi (feq_self (series_fin hs hi)), (sumN_one (fun k => feq .f32 (xs.getD k 0) (xs.getD i 0)) xs.length).2⟩
theorem ranks_len (xs : List Nat) : (ranksM xs).length = xs.length := tab_len _ _
theorem k_impl_ranks {P : Program} {f g1 : FuncId} (h : Is_impl_ranks P f g1) (c1 : C_impl_around P g1) : C_impl_ranks P f := by
  intro xs hn hx
  refine q_impl_ranks h xs ⟨?_, fun _ => rfl⟩
  refine for_up (e := .exit 0) xs.length (fun i => h_impl_ranks_L0 xs (tab i fun i => rankM xs (xs.getD i 0)) i) rfl (fun i hi => ?_) ?_
  · refine q_impl_ranks_L0 _ _ _ ?_
    have a1 := c1 xs (xs.getD i 0) hx
    have hb := equal_bound hn hi
    have hh := half_ok ⟨(equalM xs (xs.getD i 0)).toNat, by omega⟩ (by simp only; omega)
    simp only [show ((equalM xs (xs.getD i 0)).toNat : Int) = equalM xs (xs.getD i 0) by omega] at hh
    simp only [Int.toNat_natCast]
    rw [hh, show fadd .f32 (fofi .f32 (belowM xs (xs.getD i 0))) (fmul .f32 1056964608 (fofi .f32 (equalM xs (xs.getD i 0) - 1))) = rankM xs (xs.getD i 0) from rfl]
    repeat' (first | with_reducible refine T.ok_ob ?_ (fun _ => ?_) | with_reducible refine T.ok_ite (fun _ => ?_) (fun _ => ?_) | with_reducible refine T.ok_leaf ?_)
    all_goals (try simp only [decide_eq_true_eq, decide_eq_false_iff_not, Bool.not_eq_true', Bool.not_eq_false', Bool.not_eq_eq_eq_not, Bool.not_true, Bool.not_false, Int.toNat_natCast, tab_len, List.length_append, List.length_singleton, List.length_cons, List.length_nil, List.length_drop, List.length_take, getD_drop', getD_nat, reduceCtorEq] at *)
    all_goals (try simp (disch := omega) only [wrap64_id] at *)
    all_goals first | omega | (exfalso; omega) | trivial | contradiction | (exfalso; simp_all; done) | skip
    all_goals first | exact a1 | (rw [tab_succ]; rfl)
  · refine q_impl_ranks_L0 _ _ _ ?_
    repeat' (first | with_reducible refine T.ok_ob ?_ (fun _ => ?_) | with_reducible refine T.ok_ite (fun _ => ?_) (fun _ => ?_) | with_reducible refine T.ok_leaf ?_)
    all_goals (try simp only [decide_eq_true_eq, decide_eq_false_iff_not, Bool.not_eq_true', Bool.not_eq_false', Bool.not_eq_eq_eq_not, Bool.not_true, Bool.not_false, Int.toNat_natCast, tab_len, List.length_append, List.length_singleton, List.length_cons, List.length_nil, List.length_drop, List.length_take, getD_drop', getD_nat, reduceCtorEq] at *)
    all_goals (try simp (disch := omega) only [wrap64_id] at *)
    all_goals first | omega | (exfalso; omega) | trivial | contradiction | (exfalso; simp_all; done) | skip
    all_goals rfl
theorem sumN_but (p : Nat → Bool) (i : Nat) (hp : p i = true) : ∀ n : Nat, sumN n (fun k => if (p k && !decide (k = i)) = true then (1 : Int) else 0) = sumN n (fun k => if p k = true then (1 : Int) else 0) - if i < n then 1 else 0
  | 0 => by simp [sumN]
  | n + 1 => by
    simp only [sumN, sumN_but p i hp n]
    by_cases h1 : n = i
    · subst h1; simp [hp]
    · rw [decide_eq_false h1]
      by_cases h2 : i < n
      · rw [if_pos h2, if_pos (show i < n + 1 by omega)]; cases p n <;> simp <;> omega
      · rw [if_neg h2, if_neg (show ¬ i < n + 1 by omega)]; cases p n <;> simp
theorem k_impl_RankLike {P : Program} {f g1 g2 g3 g4 g5 g6 g7 : FuncId} (h : Is_impl_RankLike P f g1 g2 g3 g4 g5 g6 g7) (c1 : C_impl_areTwo P g1) (c2 : C_impl_ranks P g2) (c3 : C_impl_mean P g3) (c4 : C_impl_lessOne P g4) (c5 : C_impl_dot P g5) (c6 : C_impl_RootNumber P g6) (c7 : C_impl_ifFinite P g7) : C_impl_RankLike P f := by
  intro a b hx hy
  have lea := ranks_len a
  have leb := ranks_len b
  refine q_impl_RankLike h a b ⟨c1 _ _ hx hy, fun _ => ⟨fun h0 => ?_, fun h0 => ?_⟩⟩
  · simp at h0; simp [T.ok, rlOk, h0]
  · simp only [Bool.not_eq_false'] at h0
    have hl := two_len h0
    have hs : seriesM a = true ∧ seriesM b = true := by
      unfold twoM at h0
      simp only [Bool.and_eq_true] at h0
      exact h0.1
    have eb : fmul .f32 (dotM (lessOneM (ranksM a) (meanM (ranksM a))) (lessOneM (ranksM a) (meanM (ranksM a)))) (dotM (lessOneM (ranksM b) (meanM (ranksM b))) (lessOneM (ranksM b) (meanM (ranksM b)))) = bothM (ranksM a) (ranksM b) := rfl
    have er : fdiv .f32 (dotM (lessOneM (ranksM a) (meanM (ranksM a))) (lessOneM (ranksM b) (meanM (ranksM b)))) (rootM (bothM (ranksM a) (ranksM b))) = rlM a b := rfl
    have hok : rlOk a b = (fgt .f32 (bothM (ranksM a) (ranksM b)) 0 && finM (rlM a b)) := by unfold rlOk; rw [h0]; rfl
    refine ⟨c2 _ hs.1 (by omega), fun _ => ⟨c2 _ hs.2 (by omega), fun _ => ⟨c3 _ (by rw [maxLen_eq]; omega), fun _ => ⟨c4 _ _ (by omega), fun _ => ⟨c3 _ (by rw [maxLen_eq]; omega), fun _ => ⟨c4 _ _ (by omega), fun _ => ⟨c5 _ _ (Nat.le_refl _) (by rw [lessOne_len, maxLen_eq]; omega), fun _ => ⟨c5 _ _ (Nat.le_refl _) (by rw [lessOne_len, maxLen_eq]; omega), fun _ => ?_⟩⟩⟩⟩⟩⟩⟩⟩
    rw [eb, er]
    refine ⟨fun h2 => ?_, fun h2 => ⟨c5 _ _ (by rw [lessOne_len, lessOne_len]; omega) (by rw [lessOne_len, maxLen_eq]; omega), fun _ => ⟨c6 _, fun _ => ⟨trivial, fun _ => ⟨c7 _, fun _ => ?_⟩⟩⟩⟩⟩
    · simp only [Bool.not_eq_true'] at h2
      simp [T.ok, hok, h2]
    · simp only [Bool.not_eq_false'] at h2
      rw [h2, Bool.true_and] at hok
      simp [T.ok, hok, numM]
end Go.Proofs.LV
