/- Likenesses of a series with itself, guesses ahead, means of series. -/
import Derived.Test.YtjfgmnfkkehgfaaLvFnI
namespace Go.Proofs.LV
open Go
set_option linter.unusedVariables false
set_option linter.unusedSimpArgs false

abbrev LL := List (List Nat)
abbrev PF (p : List Nat) (xs : LL) : AV := .sl (.par p) 0 (.ff .f32 xs)
/-- the sum of products with those a lag later -/
def delM (a : List Nat) (lag : Nat) : Nat := accN (fun i s => fadd .f32 s (fmul .f32 (a.getD i 0) (a.getD (i + lag) 0))) (a.length - lag) 0
def offM (a : List Nat) : List Nat := lessOneM a (meanM a)
def likesM (a : List Nat) (most : Nat) : List Nat := tab (most + 1) fun lag => fdiv .f32 (delM (offM a) lag) (delM (offM a) 0)
def likesOk (a : List Nat) (most : Int) : Bool := seriesM a && (inM most 0 16 && (decide (most < a.length) && (fgt .f32 (delM (offM a) 0) 0 && finAllM (likesM a most.toNat))))
def likesOut (a : List Nat) (most : Int) : List Nat := if likesOk a most = true then likesM a most.toNat else []





/-- the sum of products with another's numbers a lag later -/
def cdelM (a b : List Nat) (lag : Int) : Nat := accN (fun i s => if 0 ≤ (i : Int) + lag ∧ (i : Int) + lag < b.length then fadd .f32 s (fmul .f32 (a.getD i 0) (b.getD ((i : Int) + lag).toNat 0)) else s) a.length 0



def lsSum (n : Nat) (r : List Nat) : Nat := accN (fun j s => fadd .f32 s (fdiv .f32 (fmul .f32 (r.getD (j + 1) 0) (r.getD (j + 1) 0)) (fofi .f32 (n - (j + 1) : Nat)))) (r.length - 1) 0
def lsM (a r : List Nat) : Nat := fmul .f32 (fmul .f32 (fofi .f32 a.length) (fadd .f32 (fofi .f32 a.length) 1073741824)) (lsSum a.length r)
def lsOk (a : List Nat) (most : Int) : Bool := likesOk a most && finM (lsM a (likesM a most.toNat))



/-! ### guesses ahead -/
def adAt (d : Nat) (n : Nat) : Nat × Nat := accN (fun _ a => (fadd .f32 a.1 (fmul .f32 a.2 d), fmul .f32 a.2 d)) n (d, d)
def adM (l s : Nat) (xs : List Nat) (t : Int) (d : Nat) (n : Nat) : List Nat := tab n fun k => fadd .f32 (fadd .f32 l (fmul .f32 (adAt d k).1 s)) (xs.getD ((t.toNat + k) % xs.length) 0)
def adOk (l s : Nat) (xs : List Nat) (t : Int) (a b c d : Nat) (n : Int) : Bool := validStateM l s xs t && (sharesM a b c d && (inM n 1 32 && finAllM (adM l s xs t d n.toNat)))




/-! ### means of series -/
def meanOk (xs : List Nat) : Bool := seriesM xs && finM (meanM xs)

-- FN impl_MeanOf
/-- impl.MeanOf: slots 12, results [.t 2, .t 3]; calls [5:g_impl_IsSeries, 8:g_impl_mean, 9:g_impl_ifFinite]; names [(list, 0), (list, 1)] -/
def ps_impl_MeanOf : List Nat := [0, 2, 3, 6]
def b_impl_MeanOf (g_impl_IsSeries g_impl_mean g_impl_ifFinite : FuncId) : VCode :=
  (.seq
   (.region false [
    ⟨some 2, .mv, [.k (.f .f32 0)], none⟩,
    ⟨some 3, .mv, [.k (.b false)], none⟩])
   (.seq
    (.seq
     (.region false [
      ⟨some 4, .mv, [.t 0], none⟩,
      ⟨some 5, (.call g_impl_IsSeries), [.t 4], none⟩,
      ⟨some 6, .not, [.t 5], none⟩])
     (.cond (.t 6)
      (.seq
       (.region false [
        ⟨some 2, .mv, [.k (.f .f32 0)], none⟩,
        ⟨some 3, .mv, [.k (.b false)], none⟩])
       .ret)
      .skip))
    (.seq
     (.region false [
      ⟨some 7, .mv, [.t 0], none⟩,
      ⟨some 8, (.call g_impl_mean), [.t 7], none⟩,
      ⟨some 9, (.call g_impl_ifFinite), [.t 8], none⟩,
      ⟨some 10, (.extract 0), [.t 9], none⟩,
      ⟨some 11, (.extract 1), [.t 9], none⟩,
      ⟨some 2, .mv, [.t 10], none⟩,
      ⟨some 3, .mv, [.t 11], none⟩])
     .ret)))

abbrev Is_impl_MeanOf (P : Program) (g_f : FuncId) (g_impl_IsSeries g_impl_mean g_impl_ifFinite : FuncId) : Prop := FnIs P g_f 12 [.t 2, .t 3] (b_impl_MeanOf g_impl_IsSeries g_impl_mean g_impl_ifFinite)

abbrev C_impl_MeanOf (P : Program) (g_f : FuncId) : Prop := ∀ (xs : List Nat) (hx : xs.length ≤ maxLen), VCall P g_f [PS [0] .f32 xs] (.tup [.f .f32 (if meanOk xs = true then meanM xs else 0), .b (meanOk xs)])
def oc1_impl_MeanOf (as : List AV) : T AV := match as with | [.sl _ _ (.f .f32 xs)] => .leaf (.tup [.f .f32 (if meanOk xs = true then meanM xs else 0), .b (meanOk xs)]) | _ => .fail
def oc_impl_MeanOf (xs : List Nat) (d : Nat) (as : List AV) : T AV := match d with | 5 => oc1_impl_IsSeries as | 8 => oc1_impl_mean as | 9 => oc1_impl_ifFinite as | _ => .fail



theorem q_impl_MeanOf {P : Program} {g_f : FuncId} {g_impl_IsSeries g_impl_mean g_impl_ifFinite : FuncId} (h_ : Is_impl_MeanOf P g_f g_impl_IsSeries g_impl_mean g_impl_ifFinite) (xs : List Nat) (ht : T.ok (fun x_ => x_ = .tup [.f .f32 (if meanOk xs = true then meanM xs else 0), .b (meanOk xs)]) (
      T.ob ((VCall P) g_impl_IsSeries [AV.sl (Tag.par [0]) 0 (Cont.f FloatKind.f32 xs)] (AV.b (seriesM xs)))
        (T.ite (!seriesM xs) (T.leaf (AV.tup [AV.f FloatKind.f32 0, AV.b false]))
          (T.ob ((VCall P) g_impl_mean [AV.sl (Tag.par [0]) 0 (Cont.f FloatKind.f32 xs)] (AV.f FloatKind.f32 (meanM xs)))
            (T.ob ((VCall P) g_impl_ifFinite [AV.f FloatKind.f32 (meanM xs)] (AV.tup [AV.f FloatKind.f32 (numM (meanM xs)), AV.b (finM (meanM xs))])) (T.leaf (AV.tup [AV.f FloatKind.f32 (numM (meanM xs)), AV.b (finM (meanM xs))]))))))) :
    VCall P g_f [PS [0] .f32 xs] (.tup [.f .f32 (if meanOk xs = true then meanM xs else 0), .b (meanOk xs)]) := h_.call_of ps_impl_MeanOf ⟨oc_impl_MeanOf xs, fun _ _ => none⟩ (by kernel_rfl) ht

-- END impl_MeanOf

-- FN spec_MeanOf
/-- spec.MeanOf: slots 12, results [.t 2, .t 3]; calls [5:g_spec_l02Series, 8:g_spec_l02Mean, 9:g_spec_l02Number]; names [(list, 0), (list, 1)] -/
def ps_spec_MeanOf : List Nat := [0, 2, 3, 6]
def b_spec_MeanOf (g_spec_l02Series g_spec_l02Mean g_spec_l02Number : FuncId) : VCode :=
  (.seq
   (.region false [
    ⟨some 2, .mv, [.k (.f .f32 0)], none⟩,
    ⟨some 3, .mv, [.k (.b false)], none⟩])
   (.seq
    (.seq
     (.region false [
      ⟨some 4, .mv, [.t 0], none⟩,
      ⟨some 5, (.call g_spec_l02Series), [.t 4], none⟩,
      ⟨some 6, .not, [.t 5], none⟩])
     (.cond (.t 6)
      (.seq
       (.region false [
        ⟨some 2, .mv, [.k (.f .f32 0)], none⟩,
        ⟨some 3, .mv, [.k (.b false)], none⟩])
       .ret)
      .skip))
    (.seq
     (.region false [
      ⟨some 7, .mv, [.t 0], none⟩,
      ⟨some 8, (.call g_spec_l02Mean), [.t 7], none⟩,
      ⟨some 9, (.call g_spec_l02Number), [.t 8], none⟩,
      ⟨some 10, (.extract 0), [.t 9], none⟩,
      ⟨some 11, (.extract 1), [.t 9], none⟩,
      ⟨some 2, .mv, [.t 10], none⟩,
      ⟨some 3, .mv, [.t 11], none⟩])
     .ret)))

abbrev Is_spec_MeanOf (P : Program) (g_f : FuncId) (g_spec_l02Series g_spec_l02Mean g_spec_l02Number : FuncId) : Prop := FnIs P g_f 12 [.t 2, .t 3] (b_spec_MeanOf g_spec_l02Series g_spec_l02Mean g_spec_l02Number)

abbrev C_spec_MeanOf (P : Program) (g_f : FuncId) : Prop := ∀ (xs : List Nat) (hx : xs.length ≤ maxLen), VCall P g_f [PS [0] .f32 xs] (.tup [.f .f32 (if meanOk xs = true then meanM xs else 0), .b (meanOk xs)])
def oc1_spec_MeanOf (as : List AV) : T AV := match as with | [.sl _ _ (.f .f32 xs)] => .leaf (.tup [.f .f32 (if meanOk xs = true then meanM xs else 0), .b (meanOk xs)]) | _ => .fail
def oc_spec_MeanOf (xs : List Nat) (d : Nat) (as : List AV) : T AV := match d with | 5 => oc1_spec_l02Series as | 8 => oc1_spec_l02Mean as | 9 => oc1_spec_l02Number as | _ => .fail



theorem q_spec_MeanOf {P : Program} {g_f : FuncId} {g_spec_l02Series g_spec_l02Mean g_spec_l02Number : FuncId} (h_ : Is_spec_MeanOf P g_f g_spec_l02Series g_spec_l02Mean g_spec_l02Number) (xs : List Nat) (ht : T.ok (fun x_ => x_ = .tup [.f .f32 (if meanOk xs = true then meanM xs else 0), .b (meanOk xs)]) (
      T.ob ((VCall P) g_spec_l02Series [AV.sl (Tag.par [0]) 0 (Cont.f FloatKind.f32 xs)] (AV.b (seriesM xs)))
        (T.ite (!seriesM xs) (T.leaf (AV.tup [AV.f FloatKind.f32 0, AV.b false]))
          (T.ob ((VCall P) g_spec_l02Mean [AV.sl (Tag.par [0]) 0 (Cont.f FloatKind.f32 xs)] (AV.f FloatKind.f32 (meanM xs)))
            (T.ob ((VCall P) g_spec_l02Number [AV.f FloatKind.f32 (meanM xs)] (AV.tup [AV.f FloatKind.f32 (numM (meanM xs)), AV.b (finM (meanM xs))]))
              (T.leaf (AV.tup [AV.f FloatKind.f32 (numM (meanM xs)), AV.b (finM (meanM xs))]))))))) :
    VCall P g_f [PS [0] .f32 xs] (.tup [.f .f32 (if meanOk xs = true then meanM xs else 0), .b (meanOk xs)]) := h_.call_of ps_spec_MeanOf ⟨oc_spec_MeanOf xs, fun _ _ => none⟩ (by kernel_rfl) ht

-- END spec_MeanOf

def msFin (xs : LL) : Bool := allN xs.length fun i => meanOk (xs.getD i [])
def msOk (xs : LL) (w : Int) : Bool := decide (1 ≤ xs.length) && (decide (xs.length ≤ 16) && (inM w 1 8 && msFin xs))
def msM (xs : LL) : List Nat := tab xs.length fun i => meanM (xs.getD i [])

-- FN impl_MeansShared
/-- impl.MeansShared: slots 44, results [.t 4, .t 5]; calls [21:g_impl_areWorkers, 33:g_impl_MeanOf]; names [(lists, 0), (workers, 1), (lists, 2), (workers, 3), (out, 6), (_, 7), (list, 8), (m, 9), (ok, 10)] -/
def ps_impl_MeansShared : List Nat := [0, 1, 4, 5, 6, 8, 9, 10, 23, 25, 26, 27, 28, 37]
def lv_impl_MeansShared_L0 : List Nat := [6, 25, 26, 27]
def b_impl_MeansShared_L0 (g_impl_areWorkers g_impl_MeanOf : FuncId) : VCode :=
  (.seq
   (.region false [
    ⟨some 28, (.bin .lss), [.t 27, .t 26], none⟩])
   (.seq
    (.cond (.t 28)
     .skip
     (.exit 0))
    (.seq
     (.block 1
      (.seq
       (.region false [
        ⟨some 29, .iaddr, [.t 25, .t 27], none⟩,
        ⟨some 30, .load, [.t 29], none⟩,
        ⟨some 8, .mv, [.t 30], none⟩])
       (.seq
        (.region false [
         ⟨some 32, .mv, [.t 8], none⟩,
         ⟨some 33, (.call g_impl_MeanOf), [.t 32], none⟩,
         ⟨some 31, .mv, [.t 33], none⟩,
         ⟨some 34, (.extract 0), [.t 31], none⟩,
         ⟨some 35, (.extract 1), [.t 31], none⟩,
         ⟨some 9, .mv, [.t 34], none⟩,
         ⟨some 10, .mv, [.t 35], none⟩])
        (.seq
         (.seq
          (.region false [
           ⟨some 36, .mv, [.t 10], none⟩,
           ⟨some 37, .not, [.t 36], none⟩])
          (.cond (.t 37)
           (.seq
            (.region false [
             ⟨some 4, (.nilsl (.f .f32 [])), [], none⟩,
             ⟨some 5, .mv, [.k (.b false)], none⟩])
            .ret)
           .skip))
         (.region false [
          ⟨some 38, .mv, [.t 6], none⟩,
          ⟨some 39, .mv, [.t 9], none⟩,
          ⟨some 40, (.lit true (.f .f32 [])), [.t 39], none⟩,
          ⟨some 41, .app, [.t 38, .t 40], none⟩,
          ⟨some 6, .mv, [.t 41], none⟩])))))
     (.region false [
      ⟨some 42, (.bin .add), [.t 27, .k (.i .i64 1)], none⟩,
      ⟨some 27, .mv, [.t 42], none⟩]))))

def b_impl_MeansShared (g_impl_areWorkers g_impl_MeanOf : FuncId) : VCode :=
  (.seq
   (.region false [
    ⟨some 4, (.nilsl (.f .f32 [])), [], none⟩,
    ⟨some 5, .mv, [.k (.b false)], none⟩])
   (.seq
    (.seq
     (.region false [
      ⟨some 11, .mv, [.t 0], none⟩,
      ⟨some 12, .len, [.t 11], none⟩,
      ⟨some 13, (.bin .lss), [.t 12, .k (.i .i64 1)], none⟩,
      ⟨some 14, .mv, [.t 13], none⟩,
      ⟨some 15, .mv, [.t 0], some (14, false)⟩,
      ⟨some 16, .len, [.t 15], some (14, false)⟩,
      ⟨some 17, (.bin .gtr), [.t 16, .k (.i .i64 16)], some (14, false)⟩,
      ⟨some 18, .pick, [.t 14, .k (.b true), .t 17], none⟩,
      ⟨some 19, .mv, [.t 18], none⟩,
      ⟨some 20, .mv, [.t 1], some (19, false)⟩,
      ⟨some 21, (.call g_impl_areWorkers), [.t 20], some (19, false)⟩,
      ⟨some 22, .not, [.t 21], some (19, false)⟩,
      ⟨some 23, .pick, [.t 19, .k (.b true), .t 22], none⟩])
     (.cond (.t 23)
      (.seq
       (.region false [
        ⟨some 4, (.nilsl (.f .f32 [])), [], none⟩,
        ⟨some 5, .mv, [.k (.b false)], none⟩])
       .ret)
      .skip))
    (.seq
     (.region false [
      ⟨some 24, (.lit true (.f .f32 [])), [], none⟩,
      ⟨some 6, .mv, [.t 24], none⟩])
     (.seq
      (.seq
       (.region false [
        ⟨some 25, .mv, [.t 0], none⟩,
        ⟨some 26, .len, [.t 25], none⟩,
        ⟨some 27, .mv, [.k (.i .i64 0)], none⟩])
       (.block 0 (.loop (b_impl_MeansShared_L0 g_impl_areWorkers g_impl_MeanOf))))
      (.seq
       (.region false [
        ⟨some 43, .mv, [.t 6], none⟩,
        ⟨some 4, .mv, [.t 43], none⟩,
        ⟨some 5, .mv, [.k (.b true)], none⟩])
       .ret)))))

abbrev Is_impl_MeansShared (P : Program) (g_f : FuncId) (g_impl_areWorkers g_impl_MeanOf : FuncId) : Prop := FnIs P g_f 44 [.t 4, .t 5] (b_impl_MeansShared g_impl_areWorkers g_impl_MeanOf)

abbrev C_impl_MeansShared (P : Program) (g_f : FuncId) : Prop := ∀ (xs : LL) (w : Int) (hx : xs.length ≤ maxLen) (hy : ∀ x ∈ xs, x.length ≤ maxLen), VCall P g_f [PF [0] xs, .i .i64 w] (.tup [OS 0 .f32 (if msOk xs w = true then msM xs else []), .b (msOk xs w)])
def oc1_impl_MeansShared (as : List AV) : T AV := match as with | [.sl _ _ (.ff _ xs), .i .i64 w] => .leaf (.tup [OS 0 .f32 (if msOk xs w = true then msM xs else []), .b (msOk xs w)]) | _ => .fail
def oc_impl_MeansShared (xs : LL) (w : Int) (d : Nat) (as : List AV) : T AV := match d with | 21 => oc1_impl_areWorkers as | 33 => oc1_impl_MeanOf as | _ => .fail
def h_impl_MeansShared_L0 (xs : LL) (w : Int) (out : List Nat) (v27 : Int) : Env := anys 6 ++ [.sl (Tag.own 192) 0 (.f FloatKind.f32 out)] ++ anys 18 ++ [AV.sl (Tag.par [0]) 0 (Cont.ff FloatKind.f32 xs), AV.i IntKind.i64 (↑(List.length xs) : Int), .i IntKind.i64 v27] ++ anys 16

theorem q_impl_MeansShared_L0 {VC : FuncId → List AV → AV → Prop} {g_impl_areWorkers g_impl_MeanOf : FuncId} (xs : LL) (w : Int) (out : List Nat) (v27 : Int) {e_ : Ex} {σ_ : Env} (ht : T.ok (fun x_ => x_ = (e_, σ_)) (
      T.ite (decide (v27 < (↑(List.length xs) : Int)))
        (T.ob (0 ≤ v27 ∧ v27 < (↑(List.length xs) : Int))
          (T.ob
            (VC g_impl_MeanOf [AV.sl (Tag.par [0]) 0 (Cont.f FloatKind.f32 (List.getD xs (Int.toNat v27) []))]
              (AV.tup [AV.f FloatKind.f32 (if meanOk (List.getD xs (Int.toNat v27) []) = true then meanM (List.getD xs (Int.toNat v27) []) else 0), AV.b (meanOk (List.getD xs (Int.toNat v27) []))]))
            (T.ite (!meanOk (List.getD xs (Int.toNat v27) [])) (T.leaf (Ex.ret, anys 4 ++ AV.sl Tag.nil 0 (Cont.f FloatKind.f32 []) :: AV.b false :: anys 38))
              (T.ob (List.length out + List.length [if meanOk (List.getD xs (Int.toNat v27) []) = true then meanM (List.getD xs (Int.toNat v27) []) else 0] ≤ 4294967296)
                (T.leaf (Ex.normal, h_impl_MeansShared_L0 xs w (out ++ [if meanOk (List.getD xs (Int.toNat v27) []) = true then meanM (List.getD xs (Int.toNat v27) []) else 0]) (IntKind.wrap IntKind.i64 (v27 + 1))))))))
        (T.leaf (Ex.exit 0, h_impl_MeansShared_L0 xs w out v27)))) :
    Exec VC ps_impl_MeansShared (b_impl_MeansShared_L0 g_impl_areWorkers g_impl_MeanOf) (h_impl_MeansShared_L0 xs w out v27) e_ σ_ := evL_of (lv := lv_impl_MeansShared_L0) (rs := [4, 5]) (O := ⟨oc_impl_MeansShared xs w, fun _ _ => none⟩) (by kernel_rfl) ht

theorem q_impl_MeansShared {P : Program} {g_f : FuncId} {g_impl_areWorkers g_impl_MeanOf : FuncId} (h_ : Is_impl_MeansShared P g_f g_impl_areWorkers g_impl_MeanOf) (xs : LL) (w : Int) (ht : T.ok (fun x_ => x_ = .tup [OS 0 .f32 (if msOk xs w = true then msM xs else []), .b (msOk xs w)]) (
      T.ite (decide ((↑(List.length xs) : Int) < 1)) (T.leaf (AV.tup [AV.sl (Tag.own 0) 0 (Cont.f FloatKind.f32 []), AV.b false]))
        (T.ite (decide ((↑(List.length xs) : Int) > 16)) (T.leaf (AV.tup [AV.sl (Tag.own 0) 0 (Cont.f FloatKind.f32 []), AV.b false]))
          (T.ob ((VCall P) g_impl_areWorkers [AV.i IntKind.i64 w] (AV.b (inM w 1 8)))
            (T.ite (!inM w 1 8) (T.leaf (AV.tup [AV.sl (Tag.own 0) 0 (Cont.f FloatKind.f32 []), AV.b false]))
              (T.ite (msFin xs)
                (T.ob
                  (Exec (VCall P) ps_impl_MeansShared (VCode.block 0 (VCode.loop (b_impl_MeansShared_L0 g_impl_areWorkers g_impl_MeanOf))) (h_impl_MeansShared_L0 xs w [] 0) Ex.normal
                    (h_impl_MeansShared_L0 xs w (msM xs) (↑(List.length xs) : Int)))
                  (T.leaf (AV.tup [AV.sl (Tag.own 0) 0 (Cont.f FloatKind.f32 (msM xs)), AV.b true])))
                (T.ob
                  (Exec (VCall P) ps_impl_MeansShared (VCode.block 0 (VCode.loop (b_impl_MeansShared_L0 g_impl_areWorkers g_impl_MeanOf))) (h_impl_MeansShared_L0 xs w [] 0) Ex.ret
                    (anys 4 ++ AV.sl Tag.nil 0 (Cont.f FloatKind.f32 []) :: AV.b false :: anys 38))
                  (T.leaf (AV.tup [AV.sl (Tag.own 0) 0 (Cont.f FloatKind.f32 []), AV.b false]))))))))) :
    VCall P g_f [PF [0] xs, .i .i64 w] (.tup [OS 0 .f32 (if msOk xs w = true then msM xs else []), .b (msOk xs w)]) := h_.call_of ps_impl_MeansShared ⟨oc_impl_MeansShared xs w, fun id σ => match id with | 0 => some (lv_impl_MeansShared_L0, .ite (msFin xs) (.leaf (.normal, h_impl_MeansShared_L0 xs w (msM xs) xs.length)) (.leaf (.ret, anys 4 ++ .sl .nil 0 (.f .f32 []) :: .b false :: anys 38))) | _ => none⟩ (by kernel_rfl) ht

-- END impl_MeansShared

-- FN spec_MeansShared
/-- spec.MeansShared: slots 45, results [.t 4, .t 5]; calls [20:g_spec_l00In, 35:g_spec_MeanOf]; names [(lists, 0), (workers, 1), (lists, 2), (workers, 3), (out, 6), (i, 7), (x, 8), (ok, 9)] -/
def ps_spec_MeansShared : List Nat := [0, 1, 4, 5, 6, 7, 8, 9, 22, 27, 39]
def lv_spec_MeansShared_L0 : List Nat := [0, 6, 7]
def b_spec_MeansShared_L0 (g_spec_l00In g_spec_MeanOf : FuncId) : VCode :=
  (.seq
   (.seq
    (.region false [
     ⟨some 24, .mv, [.t 7], none⟩,
     ⟨some 25, .mv, [.t 0], none⟩,
     ⟨some 26, .len, [.t 25], none⟩,
     ⟨some 27, (.bin .lss), [.t 24, .t 26], none⟩])
    (.cond (.t 27)
     .skip
     (.exit 0)))
   (.seq
    (.block 1
     (.seq
      (.region false [
       ⟨some 31, .mv, [.t 0], none⟩,
       ⟨some 32, .mv, [.t 7], none⟩,
       ⟨some 33, .iaddr, [.t 31, .t 32], none⟩,
       ⟨some 34, .load, [.t 33], none⟩,
       ⟨some 35, (.call g_spec_MeanOf), [.t 34], none⟩,
       ⟨some 30, .mv, [.t 35], none⟩,
       ⟨some 36, (.extract 0), [.t 30], none⟩,
       ⟨some 37, (.extract 1), [.t 30], none⟩,
       ⟨some 8, .mv, [.t 36], none⟩,
       ⟨some 9, .mv, [.t 37], none⟩])
      (.seq
       (.seq
        (.region false [
         ⟨some 38, .mv, [.t 9], none⟩,
         ⟨some 39, .not, [.t 38], none⟩])
        (.cond (.t 39)
         (.seq
          (.region false [
           ⟨some 4, (.nilsl (.f .f32 [])), [], none⟩,
           ⟨some 5, .mv, [.k (.b false)], none⟩])
          .ret)
         .skip))
       (.region false [
        ⟨some 40, .mv, [.t 6], none⟩,
        ⟨some 41, .mv, [.t 8], none⟩,
        ⟨some 42, (.lit true (.f .f32 [])), [.t 41], none⟩,
        ⟨some 43, .app, [.t 40, .t 42], none⟩,
        ⟨some 6, .mv, [.t 43], none⟩]))))
    (.region false [
     ⟨some 28, .mv, [.t 7], none⟩,
     ⟨some 29, (.bin .add), [.t 28, .k (.i .i64 1)], none⟩,
     ⟨some 7, .mv, [.t 29], none⟩])))

def b_spec_MeansShared (g_spec_l00In g_spec_MeanOf : FuncId) : VCode :=
  (.seq
   (.region false [
    ⟨some 4, (.nilsl (.f .f32 [])), [], none⟩,
    ⟨some 5, .mv, [.k (.b false)], none⟩])
   (.seq
    (.seq
     (.region false [
      ⟨some 10, .mv, [.t 0], none⟩,
      ⟨some 11, .len, [.t 10], none⟩,
      ⟨some 12, (.bin .lss), [.t 11, .k (.i .i64 1)], none⟩,
      ⟨some 13, .mv, [.t 12], none⟩,
      ⟨some 14, .mv, [.t 0], some (13, false)⟩,
      ⟨some 15, .len, [.t 14], some (13, false)⟩,
      ⟨some 16, (.bin .gtr), [.t 15, .k (.i .i64 16)], some (13, false)⟩,
      ⟨some 17, .pick, [.t 13, .k (.b true), .t 16], none⟩,
      ⟨some 18, .mv, [.t 17], none⟩,
      ⟨some 19, .mv, [.t 1], some (18, false)⟩,
      ⟨some 20, (.call g_spec_l00In), [.t 19, .k (.i .i64 1), .k (.i .i64 8)], some (18, false)⟩,
      ⟨some 21, .not, [.t 20], some (18, false)⟩,
      ⟨some 22, .pick, [.t 18, .k (.b true), .t 21], none⟩])
     (.cond (.t 22)
      (.seq
       (.region false [
        ⟨some 4, (.nilsl (.f .f32 [])), [], none⟩,
        ⟨some 5, .mv, [.k (.b false)], none⟩])
       .ret)
      .skip))
    (.seq
     (.region false [
      ⟨some 23, (.lit true (.f .f32 [])), [], none⟩,
      ⟨some 6, .mv, [.t 23], none⟩])
     (.seq
      (.seq
       (.region false [
        ⟨some 7, .mv, [.k (.i .i64 0)], none⟩])
       (.block 0 (.loop (b_spec_MeansShared_L0 g_spec_l00In g_spec_MeanOf))))
      (.seq
       (.region false [
        ⟨some 44, .mv, [.t 6], none⟩,
        ⟨some 4, .mv, [.t 44], none⟩,
        ⟨some 5, .mv, [.k (.b true)], none⟩])
       .ret)))))

abbrev Is_spec_MeansShared (P : Program) (g_f : FuncId) (g_spec_l00In g_spec_MeanOf : FuncId) : Prop := FnIs P g_f 45 [.t 4, .t 5] (b_spec_MeansShared g_spec_l00In g_spec_MeanOf)

abbrev C_spec_MeansShared (P : Program) (g_f : FuncId) : Prop := ∀ (xs : LL) (w : Int) (hx : xs.length ≤ maxLen) (hy : ∀ x ∈ xs, x.length ≤ maxLen), VCall P g_f [PF [0] xs, .i .i64 w] (.tup [OS 0 .f32 (if msOk xs w = true then msM xs else []), .b (msOk xs w)])
def oc1_spec_MeansShared (as : List AV) : T AV := match as with | [.sl _ _ (.ff _ xs), .i .i64 w] => .leaf (.tup [OS 0 .f32 (if msOk xs w = true then msM xs else []), .b (msOk xs w)]) | _ => .fail
def oc_spec_MeansShared (xs : LL) (w : Int) (d : Nat) (as : List AV) : T AV := match d with | 20 => oc1_spec_l00In as | 35 => oc1_spec_MeanOf as | _ => .fail
def h_spec_MeansShared_L0 (xs : LL) (w : Int) (out : List Nat) (i : Int) : Env := [AV.sl (Tag.par [0]) 0 (Cont.ff FloatKind.f32 xs)] ++ anys 5 ++ [.sl (Tag.own 184) 0 (.f FloatKind.f32 out), .i IntKind.i64 i] ++ anys 37

theorem q_spec_MeansShared_L0 {VC : FuncId → List AV → AV → Prop} {g_spec_l00In g_spec_MeanOf : FuncId} (xs : LL) (w : Int) (out : List Nat) (i : Int) {e_ : Ex} {σ_ : Env} (ht : T.ok (fun x_ => x_ = (e_, σ_)) (
      T.ite (decide (i < (↑(List.length xs) : Int)))
        (T.ob (0 ≤ i ∧ i < (↑(List.length xs) : Int))
          (T.ob
            (VC g_spec_MeanOf [AV.sl (Tag.par [0]) 0 (Cont.f FloatKind.f32 (List.getD xs (Int.toNat i) []))]
              (AV.tup [AV.f FloatKind.f32 (if meanOk (List.getD xs (Int.toNat i) []) = true then meanM (List.getD xs (Int.toNat i) []) else 0), AV.b (meanOk (List.getD xs (Int.toNat i) []))]))
            (T.ite (!meanOk (List.getD xs (Int.toNat i) [])) (T.leaf (Ex.ret, anys 4 ++ AV.sl Tag.nil 0 (Cont.f FloatKind.f32 []) :: AV.b false :: anys 39))
              (T.ob (List.length out + List.length [if meanOk (List.getD xs (Int.toNat i) []) = true then meanM (List.getD xs (Int.toNat i) []) else 0] ≤ 4294967296)
                (T.leaf (Ex.normal, h_spec_MeansShared_L0 xs w (out ++ [if meanOk (List.getD xs (Int.toNat i) []) = true then meanM (List.getD xs (Int.toNat i) []) else 0]) (IntKind.wrap IntKind.i64 (i + 1))))))))
        (T.leaf (Ex.exit 0, h_spec_MeansShared_L0 xs w out i)))) :
    Exec VC ps_spec_MeansShared (b_spec_MeansShared_L0 g_spec_l00In g_spec_MeanOf) (h_spec_MeansShared_L0 xs w out i) e_ σ_ := evL_of (lv := lv_spec_MeansShared_L0) (rs := [4, 5]) (O := ⟨oc_spec_MeansShared xs w, fun _ _ => none⟩) (by kernel_rfl) ht

theorem q_spec_MeansShared {P : Program} {g_f : FuncId} {g_spec_l00In g_spec_MeanOf : FuncId} (h_ : Is_spec_MeansShared P g_f g_spec_l00In g_spec_MeanOf) (xs : LL) (w : Int) (ht : T.ok (fun x_ => x_ = .tup [OS 0 .f32 (if msOk xs w = true then msM xs else []), .b (msOk xs w)]) (
      T.ite (decide ((↑(List.length xs) : Int) < 1)) (T.leaf (AV.tup [AV.sl (Tag.own 0) 0 (Cont.f FloatKind.f32 []), AV.b false]))
        (T.ite (decide ((↑(List.length xs) : Int) > 16)) (T.leaf (AV.tup [AV.sl (Tag.own 0) 0 (Cont.f FloatKind.f32 []), AV.b false]))
          (T.ob ((VCall P) g_spec_l00In [AV.i IntKind.i64 w, AV.i IntKind.i64 1, AV.i IntKind.i64 8] (AV.b (inM w 1 8)))
            (T.ite (!inM w 1 8) (T.leaf (AV.tup [AV.sl (Tag.own 0) 0 (Cont.f FloatKind.f32 []), AV.b false]))
              (T.ite (msFin xs)
                (T.ob
                  (Exec (VCall P) ps_spec_MeansShared (VCode.block 0 (VCode.loop (b_spec_MeansShared_L0 g_spec_l00In g_spec_MeanOf))) (h_spec_MeansShared_L0 xs w [] 0) Ex.normal
                    (h_spec_MeansShared_L0 xs w (msM xs) (↑(List.length xs) : Int)))
                  (T.leaf (AV.tup [AV.sl (Tag.own 0) 0 (Cont.f FloatKind.f32 (msM xs)), AV.b true])))
                (T.ob
                  (Exec (VCall P) ps_spec_MeansShared (VCode.block 0 (VCode.loop (b_spec_MeansShared_L0 g_spec_l00In g_spec_MeanOf))) (h_spec_MeansShared_L0 xs w [] 0) Ex.ret
                    (anys 4 ++ AV.sl Tag.nil 0 (Cont.f FloatKind.f32 []) :: AV.b false :: anys 39))
                  (T.leaf (AV.tup [AV.sl (Tag.own 0) 0 (Cont.f FloatKind.f32 []), AV.b false]))))))))) :
    VCall P g_f [PF [0] xs, .i .i64 w] (.tup [OS 0 .f32 (if msOk xs w = true then msM xs else []), .b (msOk xs w)]) := h_.call_of ps_spec_MeansShared ⟨oc_spec_MeansShared xs w, fun id σ => match id with | 0 => some (lv_spec_MeansShared_L0, .ite (msFin xs) (.leaf (.normal, h_spec_MeansShared_L0 xs w (msM xs) xs.length)) (.leaf (.ret, anys 4 ++ .sl .nil 0 (.f .f32 []) :: .b false :: anys 39))) | _ => none⟩ (by kernel_rfl) ht

-- END spec_MeansShared

theorem off_len (a : List Nat) : (offM a).length = a.length := lessOne_len _ _
theorem likes_len (a : List Nat) (m : Nat) : (likesM a m).length = m + 1 := tab_len _ _
theorem del_zero (x : List Nat) : dotM x x = delM x 0 := rfl
theorem dot_shift (x : List Nat) (lag : Nat) : dotM (x.take (x.length - lag)) (x.drop lag) = delM x lag := by
  unfold dotM delM
  rw [List.length_take, Nat.min_eq_left (Nat.sub_le _ _)]
  refine accN_congr fun i s hi => ?_
  rw [getD_take _ _ _ _ hi, getD_drop', Nat.add_comm lag i]
theorem cdel_self (b : List Nat) (g : Nat) : cdelM b b g = delM b g := by
  have gen : ∀ n, accN (fun i s => if 0 ≤ (i : Int) + (g : Int) ∧ (i : Int) + (g : Int) < b.length then fadd .f32 s (fmul .f32 (b.getD i 0) (b.getD ((i : Int) + (g : Int)).toNat 0)) else s) n 0 = accN (fun i s => fadd .f32 s (fmul .f32 (b.getD i 0) (b.getD (i + g) 0))) (min n (b.length - g)) 0 := by
    intro n
    induction n with
    | zero => rfl
    | succ n ih =>
      simp only [accN]
      by_cases h1 : n + g < b.length
      · rw [if_pos (by omega), ih, show min (n + 1) (b.length - g) = min n (b.length - g) + 1 by omega]
        simp only [accN]
        rw [show min n (b.length - g) = n by omega, show ((n : Int) + (g : Int)).toNat = n + g by omega]
      · rw [if_neg (by omega), ih, show min (n + 1) (b.length - g) = min n (b.length - g) by omega]
  unfold cdelM
  rw [gen, show min b.length (b.length - g) = b.length - g by omega]; rfl
theorem small_sub : ∀ n : Fin 97, ∀ k : Fin 18, k.val ≤ n.val → fsub .f32 (fofi .f32 (n.val : Int)) (fofi .f32 (k.val : Int)) = fofi .f32 ((n.val - k.val : Nat) : Int) := by decide +kernel
theorem likesOk_in {a : List Nat} {most : Int} (h : likesOk a most = true) : 1 ≤ a.length ∧ a.length ≤ 96 ∧ 0 ≤ most ∧ most ≤ 16 ∧ most < a.length := by
  unfold likesOk at h
  simp only [Bool.and_eq_true, decide_eq_true_eq] at h
  have := series_len h.1
  have : 0 ≤ most ∧ most ≤ 16 := by simpa [inM] using h.2.1
  omega
theorem ad_len (l s : Nat) (xs : List Nat) (t : Int) (d n : Nat) : (adM l s xs t d n).length = n := tab_len _ _
theorem k_impl_MeanOf {P : Program} {f g_impl_IsSeries g_impl_mean g_impl_ifFinite : FuncId} (h : Is_impl_MeanOf P f g_impl_IsSeries g_impl_mean g_impl_ifFinite) (c1 : C_impl_IsSeries P g_impl_IsSeries) (c2 : C_impl_mean P g_impl_mean) (c3 : C_impl_ifFinite P g_impl_ifFinite) : C_impl_MeanOf P f := by
  intro xs hx
  refine q_impl_MeanOf h xs ?_
  repeat' (first | with_reducible refine T.ok_ob ?_ (fun _ => ?_) | with_reducible refine T.ok_ite (fun _ => ?_) (fun _ => ?_) | with_reducible refine T.ok_leaf ?_)
  all_goals first | with_reducible rfl | with_reducible assumption | ((with_reducible refine c1 _ ?_) <;> (first | assumption | omega | with_reducible rfl | (simp [maxLen_eq]; done) | (simp [maxLen_eq]; omega))) | ((with_reducible refine c2 _ ?_) <;> (first | assumption | omega | with_reducible rfl | (simp [maxLen_eq]; done) | (simp [maxLen_eq]; omega))) | with_reducible exact c3 _ | contradiction | exact fconvOk_32_64 _ | assumption | exact rfl | (simp_all [meanOk, numM]; done) | (simp_all [T.ok, meanOk, numM]; omega)

theorem k_spec_MeanOf {P : Program} {f g_spec_l02Series g_spec_l02Mean g_spec_l02Number : FuncId} (h : Is_spec_MeanOf P f g_spec_l02Series g_spec_l02Mean g_spec_l02Number) (c1 : C_spec_l02Series P g_spec_l02Series) (c2 : C_spec_l02Mean P g_spec_l02Mean) (c3 : C_spec_l02Number P g_spec_l02Number) : C_spec_MeanOf P f := by
  intro xs hx
  refine q_spec_MeanOf h xs ?_
  repeat' (first | with_reducible refine T.ok_ob ?_ (fun _ => ?_) | with_reducible refine T.ok_ite (fun _ => ?_) (fun _ => ?_) | with_reducible refine T.ok_leaf ?_)
  all_goals first | with_reducible rfl | with_reducible assumption | ((with_reducible refine c1 _ ?_) <;> (first | assumption | omega | with_reducible rfl | (simp [maxLen_eq]; done) | (simp [maxLen_eq]; omega))) | ((with_reducible refine c2 _ ?_) <;> (first | assumption | omega | with_reducible rfl | (simp [maxLen_eq]; done) | (simp [maxLen_eq]; omega))) | with_reducible exact c3 _ | contradiction | exact fconvOk_32_64 _ | assumption | exact rfl | (simp_all [meanOk, numM]; done) | (simp_all [T.ok, meanOk, numM]; omega)

theorem k_impl_MeansShared {P : Program} {f g1 g2 : FuncId} (h : Is_impl_MeansShared P f g1 g2) (c1 : C_impl_areWorkers P g1) (c2 : C_impl_MeanOf P g2) : C_impl_MeansShared P f := by
  intro xs w hx hy
  refine q_impl_MeansShared h xs w ⟨fun h0 => ?_, fun h0 => ⟨fun h1 => ?_, fun h1 => ⟨c1 _, fun _ => ⟨fun h2 => ?_, fun h2 => ?_⟩⟩⟩⟩
  · have : ¬ (1 ≤ xs.length) := by have := of_decide_eq_true h0; omega
    have : msOk xs w = false := by unfold msOk; simp only [this, decide_false, Bool.false_and]
    simp [T.ok, this]
  · have : ¬ (xs.length ≤ 16) := by have := of_decide_eq_true h1; omega
    have : msOk xs w = false := by unfold msOk; simp only [this, decide_false, Bool.false_and, Bool.and_false]
    simp [T.ok, this]
  · simp at h2; simp [T.ok, msOk, h2]
  · have h0 : 1 ≤ xs.length := by have := of_decide_eq_false h0; omega
    have h1 : xs.length ≤ 16 := by have := of_decide_eq_false h1; omega
    simp only [Bool.not_eq_false'] at h2
    have e : msOk xs w = msFin xs := by simp [msOk, h0, h1, h2]
    rw [e]
    have go : ∀ i, i < xs.length → meanOk (xs.getD i []) = true → Exec (VCall P) ps_impl_MeansShared (b_impl_MeansShared_L0 g1 g2) (h_impl_MeansShared_L0 xs w (tab i fun i => meanM (xs.getD i [])) i) .normal (h_impl_MeansShared_L0 xs w (tab (i + 1) fun i => meanM (xs.getD i [])) (i + 1 : Nat)) := by
      intro i hi hc
      refine q_impl_MeansShared_L0 _ _ _ _ ?_
      have a2 := c2 (xs.getD i []) (by simp [List.getD, hi]; exact hy _ (List.getElem_mem hi))
      rw [Int.toNat_natCast, hc]
      rw [hc] at a2
      simp only [if_true] at a2 ⊢
      repeat' (first | with_reducible refine T.ok_ob ?_ (fun _ => ?_) | with_reducible refine T.ok_ite (fun _ => ?_) (fun _ => ?_) | with_reducible refine T.ok_leaf ?_)
      all_goals (try simp only [decide_eq_true_eq, decide_eq_false_iff_not, Bool.not_eq_true', Bool.not_eq_false', Bool.not_eq_eq_eq_not, Bool.not_true, Bool.not_false, Int.toNat_natCast, tab_len, List.length_append, List.length_singleton, List.length_cons, List.length_nil, List.length_drop, List.length_take, getD_drop', getD_nat, reduceCtorEq] at *)
      all_goals (try simp (disch := omega) only [wrap64_id] at *)
      all_goals first | omega | (exfalso; omega) | exact True.intro | skip
      all_goals first | exact a2 | (rw [tab_succ]; rfl)
    refine ⟨fun h3 => ⟨?_, fun _ => ?_⟩, fun h3 => ⟨?_, fun _ => ?_⟩⟩
    · refine for_all (e := .exit 0) _ xs.length (fun i => h_impl_MeansShared_L0 xs w (tab i fun i => meanM (xs.getD i [])) i) h3 rfl go ?_
      refine q_impl_MeansShared_L0 _ _ _ _ ?_
      repeat' (first | with_reducible refine T.ok_ob ?_ (fun _ => ?_) | with_reducible refine T.ok_ite (fun _ => ?_) (fun _ => ?_) | with_reducible refine T.ok_leaf ?_)
      all_goals (try simp only [decide_eq_true_eq, decide_eq_false_iff_not, Bool.not_eq_true', Bool.not_eq_false', Bool.not_eq_eq_eq_not, Bool.not_true, Bool.not_false, Int.toNat_natCast, tab_len, List.length_append, List.length_singleton, List.length_cons, List.length_nil, List.length_drop, List.length_take, getD_drop', getD_nat, reduceCtorEq] at *)
      all_goals (try simp (disch := omega) only [wrap64_id] at *)
      all_goals first | omega | (exfalso; omega) | exact True.intro | skip
      all_goals rfl
    · simp [T.ok, h3]
    · refine for_one (e := .ret) _ xs.length (fun i => h_impl_MeansShared_L0 xs w (tab i fun i => meanM (xs.getD i [])) i) h3 rfl go (fun i hi hc => ?_)
      refine q_impl_MeansShared_L0 _ _ _ _ ?_
      have a2 := c2 (xs.getD i []) (by simp [List.getD, hi]; exact hy _ (List.getElem_mem hi))
      rw [Int.toNat_natCast, hc]
      rw [hc] at a2
      simp only [if_false, Bool.false_eq_true] at a2 ⊢
      repeat' (first | with_reducible refine T.ok_ob ?_ (fun _ => ?_) | with_reducible refine T.ok_ite (fun _ => ?_) (fun _ => ?_) | with_reducible refine T.ok_leaf ?_)
      all_goals (try simp only [decide_eq_true_eq, decide_eq_false_iff_not, Bool.not_eq_true', Bool.not_eq_false', Bool.not_eq_eq_eq_not, Bool.not_true, Bool.not_false, Int.toNat_natCast, tab_len, List.length_append, List.length_singleton, List.length_cons, List.length_nil, List.length_drop, List.length_take, getD_drop', getD_nat, reduceCtorEq] at *)
      all_goals (try simp (disch := omega) only [wrap64_id] at *)
      all_goals first | omega | (exfalso; omega) | exact True.intro | skip
      all_goals first | exact a2 | rfl
    · simp [T.ok, h3]
theorem k_spec_MeansShared {P : Program} {f g1 g2 : FuncId} (h : Is_spec_MeansShared P f g1 g2) (c1 : C_spec_l00In P g1) (c2 : C_spec_MeanOf P g2) : C_spec_MeansShared P f := by
  intro xs w hx hy
  refine q_spec_MeansShared h xs w ⟨fun h0 => ?_, fun h0 => ⟨fun h1 => ?_, fun h1 => ⟨c1 _ _ _, fun _ => ⟨fun h2 => ?_, fun h2 => ?_⟩⟩⟩⟩
  · have : ¬ (1 ≤ xs.length) := by have := of_decide_eq_true h0; omega
    have : msOk xs w = false := by unfold msOk; simp only [this, decide_false, Bool.false_and]
    simp [T.ok, this]
  · have : ¬ (xs.length ≤ 16) := by have := of_decide_eq_true h1; omega
    have : msOk xs w = false := by unfold msOk; simp only [this, decide_false, Bool.false_and, Bool.and_false]
    simp [T.ok, this]
  · simp at h2; simp [T.ok, msOk, h2]
  · have h0 : 1 ≤ xs.length := by have := of_decide_eq_false h0; omega
    have h1 : xs.length ≤ 16 := by have := of_decide_eq_false h1; omega
    simp only [Bool.not_eq_false'] at h2
    have e : msOk xs w = msFin xs := by simp [msOk, h0, h1, h2]
    rw [e]
    have go : ∀ i, i < xs.length → meanOk (xs.getD i []) = true → Exec (VCall P) ps_spec_MeansShared (b_spec_MeansShared_L0 g1 g2) (h_spec_MeansShared_L0 xs w (tab i fun i => meanM (xs.getD i [])) i) .normal (h_spec_MeansShared_L0 xs w (tab (i + 1) fun i => meanM (xs.getD i [])) (i + 1 : Nat)) := by
      intro i hi hc
      refine q_spec_MeansShared_L0 _ _ _ _ ?_
      have a2 := c2 (xs.getD i []) (by simp [List.getD, hi]; exact hy _ (List.getElem_mem hi))
      rw [Int.toNat_natCast, hc]
      rw [hc] at a2
      simp only [if_true] at a2 ⊢
      repeat' (first | with_reducible refine T.ok_ob ?_ (fun _ => ?_) | with_reducible refine T.ok_ite (fun _ => ?_) (fun _ => ?_) | with_reducible refine T.ok_leaf ?_)
      all_goals (try simp only [decide_eq_true_eq, decide_eq_false_iff_not, Bool.not_eq_true', Bool.not_eq_false', Bool.not_eq_eq_eq_not, Bool.not_true, Bool.not_false, Int.toNat_natCast, tab_len, List.length_append, List.length_singleton, List.length_cons, List.length_nil, List.length_drop, List.length_take, getD_drop', getD_nat, reduceCtorEq] at *)
      all_goals (try simp (disch := omega) only [wrap64_id] at *)
      all_goals first | omega | (exfalso; omega) | exact True.intro | skip
      all_goals first | exact a2 | (rw [tab_succ]; rfl)
    refine ⟨fun h3 => ⟨?_, fun _ => ?_⟩, fun h3 => ⟨?_, fun _ => ?_⟩⟩
    · refine for_all (e := .exit 0) _ xs.length (fun i => h_spec_MeansShared_L0 xs w (tab i fun i => meanM (xs.getD i [])) i) h3 rfl go ?_
      refine q_spec_MeansShared_L0 _ _ _ _ ?_
      repeat' (first | with_reducible refine T.ok_ob ?_ (fun _ => ?_) | with_reducible refine T.ok_ite (fun _ => ?_) (fun _ => ?_) | with_reducible refine T.ok_leaf ?_)
      all_goals (try simp only [decide_eq_true_eq, decide_eq_false_iff_not, Bool.not_eq_true', Bool.not_eq_false', Bool.not_eq_eq_eq_not, Bool.not_true, Bool.not_false, Int.toNat_natCast, tab_len, List.length_append, List.length_singleton, List.length_cons, List.length_nil, List.length_drop, List.length_take, getD_drop', getD_nat, reduceCtorEq] at *)
      all_goals (try simp (disch := omega) only [wrap64_id] at *)
      all_goals first | omega | (exfalso; omega) | exact True.intro | skip
      all_goals rfl
    · simp [T.ok, h3]
    · refine for_one (e := .ret) _ xs.length (fun i => h_spec_MeansShared_L0 xs w (tab i fun i => meanM (xs.getD i [])) i) h3 rfl go (fun i hi hc => ?_)
      refine q_spec_MeansShared_L0 _ _ _ _ ?_
      have a2 := c2 (xs.getD i []) (by simp [List.getD, hi]; exact hy _ (List.getElem_mem hi))
      rw [Int.toNat_natCast, hc]
      rw [hc] at a2
      simp only [if_false, Bool.false_eq_true] at a2 ⊢
      repeat' (first | with_reducible refine T.ok_ob ?_ (fun _ => ?_) | with_reducible refine T.ok_ite (fun _ => ?_) (fun _ => ?_) | with_reducible refine T.ok_leaf ?_)
      all_goals (try simp only [decide_eq_true_eq, decide_eq_false_iff_not, Bool.not_eq_true', Bool.not_eq_false', Bool.not_eq_eq_eq_not, Bool.not_true, Bool.not_false, Int.toNat_natCast, tab_len, List.length_append, List.length_singleton, List.length_cons, List.length_nil, List.length_drop, List.length_take, getD_drop', getD_nat, reduceCtorEq] at *)
      all_goals (try simp (disch := omega) only [wrap64_id] at *)
      all_goals first | omega | (exfalso; omega) | exact True.intro | skip
      all_goals first | exact a2 | rfl
    · simp [T.ok, h3]

end Go.Proofs.LV
