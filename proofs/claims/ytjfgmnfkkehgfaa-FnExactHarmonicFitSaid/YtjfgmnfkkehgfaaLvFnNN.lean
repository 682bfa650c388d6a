/- HarmonicFit. -/
import Derived.Test.YtjfgmnfkkehgfaaLvFnMM
import Derived.Test.YtjfgmnfkkehgfaaLvFnII
import Derived.Test.YtjfgmnfkkehgfaaLvFnBB
namespace Go.Proofs.LV
open Go
set_option linter.unusedVariables false
set_option linter.unusedSimpArgs false

/-- the columns of harmonics, of the first m places -/
def hfC (m : Nat) (p : Nat) (c : Nat) : LL := tab (2 * c + 1) fun k => tab m fun i => (hmL p (i : Nat) c).getD k 0
def hfG (a : List Nat) (p : Nat) (c : Int) : Bool := seriesM a && ((finM p && fgt .f32 p 0) && inM c 1 2)
def hfOk (a : List Nat) (p : Nat) (c : Int) : Bool := hfG a p c && ftOk (hfC a.length p c.toNat) a
def hfOut (a : List Nat) (p : Nat) (c : Int) : List Nat := if hfG a p c = true then ftOut (hfC a.length p c.toNat) a else []

-- FN impl_HarmonicFit
/-- impl.HarmonicFit: slots 67, results [.t 6, .t 7]; calls [13:g_impl_IsSeries, 18:g_impl_areMore, 23:g_impl_within, 38:g_impl_harmonics, 60:g_impl_areColumns, 64:g_impl_columnFit]; names [(a, 0), (period, 1), (count, 2), (a, 3), (period, 4), (count, 5), (columns, 8), (i, 9), (k, 10), (x, 11)] -/
def ps_impl_HarmonicFit : List Nat := [0, 1, 2, 6, 7, 8, 9, 10, 11, 25, 31, 32, 33, 38, 39, 40, 41, 61]
def lv_impl_HarmonicFit_L0 : List Nat := [0, 1, 2, 8, 31, 32]
def lv_impl_HarmonicFit_L2 : List Nat := [0, 1, 2, 8, 31, 32, 38, 39, 40]
def b_impl_HarmonicFit_L2 (g_impl_IsSeries g_impl_areMore g_impl_within g_impl_harmonics g_impl_areColumns g_impl_columnFit : FuncId) : VCode :=
  (.seq
   (.region false [
    ⟨some 41, (.bin .lss), [.t 40, .t 39], none⟩])
   (.seq
    (.cond (.t 41)
     .skip
     (.exit 2))
    (.seq
     (.block 3
      (.seq
       (.region false [
        ⟨some 42, .mv, [.t 40], none⟩,
        ⟨some 43, .iaddr, [.t 38, .t 40], none⟩,
        ⟨some 44, .load, [.t 43], none⟩,
        ⟨some 10, .mv, [.t 42], none⟩,
        ⟨some 11, .mv, [.t 44], none⟩])
       (.region false [
        ⟨some 45, .mv, [.t 8], none⟩,
        ⟨some 46, .mv, [.t 10], none⟩,
        ⟨some 47, .mv, [.t 8], none⟩,
        ⟨some 48, .mv, [.t 10], none⟩,
        ⟨some 49, .iaddr, [.t 47, .t 48], none⟩,
        ⟨some 50, .load, [.t 49], none⟩,
        ⟨some 51, .mv, [.t 11], none⟩,
        ⟨some 52, (.lit true (.f .f32 [])), [.t 51], none⟩,
        ⟨some 53, .app, [.t 50, .t 52], none⟩,
        ⟨some 54, .iaddr, [.t 45, .t 46], none⟩,
        ⟨none, .store, [.t 54, .t 53], none⟩])))
     (.region false [
      ⟨some 55, (.bin .add), [.t 40, .k (.i .i64 1)], none⟩,
      ⟨some 40, .mv, [.t 55], none⟩]))))

def b_impl_HarmonicFit_L0 (g_impl_IsSeries g_impl_areMore g_impl_within g_impl_harmonics g_impl_areColumns g_impl_columnFit : FuncId) : VCode :=
  (.seq
   (.region false [
    ⟨some 33, (.bin .lss), [.t 32, .t 31], none⟩])
   (.seq
    (.cond (.t 33)
     .skip
     (.exit 0))
    (.seq
     (.block 1
      (.seq
       (.region false [
        ⟨some 34, .mv, [.t 32], none⟩,
        ⟨some 9, .mv, [.t 34], none⟩])
       (.seq
        (.region false [
         ⟨some 35, .mv, [.t 1], none⟩,
         ⟨some 36, .mv, [.t 2], none⟩,
         ⟨some 37, .mv, [.t 9], none⟩,
         ⟨some 38, (.call g_impl_harmonics), [.t 35, .t 36, .t 37], none⟩,
         ⟨some 39, .len, [.t 38], none⟩,
         ⟨some 40, .mv, [.k (.i .i64 0)], none⟩])
        (.block 2 (.loop (b_impl_HarmonicFit_L2 g_impl_IsSeries g_impl_areMore g_impl_within g_impl_harmonics g_impl_areColumns g_impl_columnFit))))))
     (.region false [
      ⟨some 56, (.bin .add), [.t 32, .k (.i .i64 1)], none⟩,
      ⟨some 32, .mv, [.t 56], none⟩]))))

def b_impl_HarmonicFit (g_impl_IsSeries g_impl_areMore g_impl_within g_impl_harmonics g_impl_areColumns g_impl_columnFit : FuncId) : VCode :=
  (.seq
   (.region false [
    ⟨some 6, (.nilsl (.f .f32 [])), [], none⟩,
    ⟨some 7, .mv, [.k (.b false)], none⟩])
   (.seq
    (.seq
     (.region false [
      ⟨some 12, .mv, [.t 0], none⟩,
      ⟨some 13, (.call g_impl_IsSeries), [.t 12], none⟩,
      ⟨some 14, .not, [.t 13], none⟩,
      ⟨some 15, .mv, [.t 14], none⟩,
      ⟨some 16, .mv, [.t 1], some (15, false)⟩,
      ⟨some 17, (.lit true (.f .f32 [])), [.t 16], some (15, false)⟩,
      ⟨some 18, (.call g_impl_areMore), [.t 17], some (15, false)⟩,
      ⟨some 19, .not, [.t 18], some (15, false)⟩,
      ⟨some 20, .pick, [.t 15, .k (.b true), .t 19], none⟩,
      ⟨some 21, .mv, [.t 20], none⟩,
      ⟨some 22, .mv, [.t 2], some (21, false)⟩,
      ⟨some 23, (.call g_impl_within), [.t 22, .k (.i .i64 1), .k (.i .i64 2)], some (21, false)⟩,
      ⟨some 24, .not, [.t 23], some (21, false)⟩,
      ⟨some 25, .pick, [.t 21, .k (.b true), .t 24], none⟩])
     (.cond (.t 25)
      (.seq
       (.region false [
        ⟨some 6, (.nilsl (.f .f32 [])), [], none⟩,
        ⟨some 7, .mv, [.k (.b false)], none⟩])
       .ret)
      .skip))
    (.seq
     (.region false [
      ⟨some 26, .mv, [.t 2], none⟩,
      ⟨some 27, (.bin .mul), [.k (.i .i64 2), .t 26], none⟩,
      ⟨some 28, (.bin .add), [.k (.i .i64 1), .t 27], none⟩,
      ⟨some 29, (.mksl (.sl .imm 0 (.f .f32 []))), [.t 28, .t 28], none⟩,
      ⟨some 8, .mv, [.t 29], none⟩])
     (.seq
      (.seq
       (.region false [
        ⟨some 30, .mv, [.t 0], none⟩,
        ⟨some 31, .len, [.t 30], none⟩,
        ⟨some 32, .mv, [.k (.i .i64 0)], none⟩])
       (.block 0 (.loop (b_impl_HarmonicFit_L0 g_impl_IsSeries g_impl_areMore g_impl_within g_impl_harmonics g_impl_areColumns g_impl_columnFit))))
      (.seq
       (.seq
        (.region false [
         ⟨some 57, .mv, [.t 8], none⟩,
         ⟨some 58, .mv, [.t 0], none⟩,
         ⟨some 59, .len, [.t 58], none⟩,
         ⟨some 60, (.call g_impl_areColumns), [.t 57, .t 59], none⟩,
         ⟨some 61, .not, [.t 60], none⟩])
        (.cond (.t 61)
         (.seq
          (.region false [
           ⟨some 6, (.nilsl (.f .f32 [])), [], none⟩,
           ⟨some 7, .mv, [.k (.b false)], none⟩])
          .ret)
         .skip))
       (.seq
        (.region false [
         ⟨some 62, .mv, [.t 8], none⟩,
         ⟨some 63, .mv, [.t 0], none⟩,
         ⟨some 64, (.call g_impl_columnFit), [.t 62, .t 63], none⟩,
         ⟨some 65, (.extract 0), [.t 64], none⟩,
         ⟨some 66, (.extract 1), [.t 64], none⟩,
         ⟨some 6, .mv, [.t 65], none⟩,
         ⟨some 7, .mv, [.t 66], none⟩])
        .ret))))))

abbrev Is_impl_HarmonicFit (P : Program) (g_f : FuncId) (g_impl_IsSeries g_impl_areMore g_impl_within g_impl_harmonics g_impl_areColumns g_impl_columnFit : FuncId) : Prop := FnIs P g_f 67 [.t 6, .t 7] (b_impl_HarmonicFit g_impl_IsSeries g_impl_areMore g_impl_within g_impl_harmonics g_impl_areColumns g_impl_columnFit)

abbrev C_impl_HarmonicFit (P : Program) (g_f : FuncId) : Prop := ∀ (a : List Nat) (p : Nat) (c : Int) (hx : a.length ≤ maxLen), VCall P g_f [PS [0] .f32 a, .f .f32 p, .i .i64 c] (.tup [OS 0 .f32 (hfOut a p c), .b (hfOk a p c)])
def oc1_impl_HarmonicFit (as : List AV) : T AV := match as with | [.sl _ _ (.f .f32 a), .f .f32 p, .i .i64 c] => .leaf (.tup [OS 0 .f32 (hfOut a p c), .b (hfOk a p c)]) | _ => .fail
def oc_impl_HarmonicFit (a : List Nat) (p : Nat) (c : Int) (d : Nat) (as : List AV) : T AV := match d with | 13 => oc1_impl_IsSeries as | 18 => oc1_impl_areMore as | 23 => oc1_impl_within as | 38 => oc1_impl_harmonics as | 60 => oc1_impl_areColumns as | 64 => oc1_impl_columnFit as | _ => .fail
def h_impl_HarmonicFit_L0 (a : List Nat) (p : Nat) (c : Int) (columns : LL) (v32 : Int) : Env := [AV.sl (Tag.par [0]) 0 (Cont.f FloatKind.f32 a), AV.f FloatKind.f32 p, AV.i IntKind.i64 c] ++ anys 5 ++ [.nw 232 0 FloatKind.f32 columns none] ++ anys 22 ++ [AV.i IntKind.i64 (↑(List.length a) : Int), .i IntKind.i64 v32] ++ anys 34
def h_impl_HarmonicFit_L2 (a : List Nat) (p : Nat) (c : Int) (columns : LL) (v32 : Int) (columns2 : LL) (v38 : List Nat) (v40 : Int) : Env := [AV.sl (Tag.par [0]) 0 (Cont.f FloatKind.f32 a), AV.f FloatKind.f32 p, AV.i IntKind.i64 c] ++ anys 5 ++ [.nw 232 0 FloatKind.f32 columns2 none] ++ anys 22 ++ [AV.i IntKind.i64 (↑(List.length a) : Int), AV.i IntKind.i64 v32] ++ anys 5 ++ [.sl (Tag.own 304) 0 (.f FloatKind.f32 v38), AV.i IntKind.i64 (↑(List.length (hmL p v32 (Int.toNat c))) : Int), .i IntKind.i64 v40] ++ anys 26

theorem q_impl_HarmonicFit_L0 {VC : FuncId → List AV → AV → Prop} {g_impl_IsSeries g_impl_areMore g_impl_within g_impl_harmonics g_impl_areColumns g_impl_columnFit : FuncId} (a : List Nat) (p : Nat) (c : Int) (columns : LL) (v32 : Int) {e_ : Ex} {σ_ : Env} (ht : T.ok (fun x_ => x_ = (e_, σ_)) (
      T.ite (decide (v32 < (↑(List.length a) : Int)))
        (T.ob (VC g_impl_harmonics [AV.f FloatKind.f32 p, AV.i IntKind.i64 c, AV.i IntKind.i64 v32] (AV.sl (Tag.own 0) 0 (Cont.f FloatKind.f32 (hmL p v32 (Int.toNat c)))))
          (T.ob
            (Exec VC ps_impl_HarmonicFit (VCode.block 2 (VCode.loop (b_impl_HarmonicFit_L2 g_impl_IsSeries g_impl_areMore g_impl_within g_impl_harmonics g_impl_areColumns g_impl_columnFit)))
              (h_impl_HarmonicFit_L2 a p c columns v32 columns (hmL p v32 (Int.toNat c)) 0) Ex.normal
              (h_impl_HarmonicFit_L2 a p c columns v32 (hfC (Int.toNat v32 + 1) p (Int.toNat c)) (hmL p v32 (Int.toNat c)) (↑(2 * Int.toNat c + 1) : Int)))
            (T.leaf (Ex.normal, h_impl_HarmonicFit_L0 a p c (hfC (Int.toNat v32 + 1) p (Int.toNat c)) (IntKind.wrap IntKind.i64 (v32 + 1))))))
        (T.leaf (Ex.exit 0, h_impl_HarmonicFit_L0 a p c columns v32)))) :
    Exec VC ps_impl_HarmonicFit (b_impl_HarmonicFit_L0 g_impl_IsSeries g_impl_areMore g_impl_within g_impl_harmonics g_impl_areColumns g_impl_columnFit) (h_impl_HarmonicFit_L0 a p c columns v32) e_ σ_ := evL_of (lv := lv_impl_HarmonicFit_L0) (rs := [6, 7]) (O := ⟨oc_impl_HarmonicFit a p c, fun id σ => match id with | 2 => some (lv_impl_HarmonicFit_L2, .leaf (.normal, h_impl_HarmonicFit_L2 a p c columns v32 (hfC (v32.toNat + 1) p c.toNat) (hmL p v32 c.toNat) ((2 * c.toNat + 1 : Nat) : Int))) | _ => none⟩) (by kernel_rfl) ht

theorem q_impl_HarmonicFit_L2 {VC : FuncId → List AV → AV → Prop} {g_impl_IsSeries g_impl_areMore g_impl_within g_impl_harmonics g_impl_areColumns g_impl_columnFit : FuncId} (a : List Nat) (p : Nat) (c : Int) (columns : LL) (v32 : Int) (columns2 : LL) (v38 : List Nat) (v40 : Int) {e_ : Ex} {σ_ : Env} (ht : T.ok (fun x_ => x_ = (e_, σ_)) (
      T.ite (decide (v40 < (↑(List.length (hmL p v32 (Int.toNat c))) : Int)))
        (T.ob (0 ≤ v40 ∧ v40 < (↑(List.length v38) : Int))
          (T.ob (0 ≤ v40 ∧ v40 < (↑(List.length columns2) : Int))
            (T.ob (List.length (List.getD columns2 (Int.toNat v40) []) + List.length [List.getD v38 (Int.toNat v40) 0] ≤ 4294967296)
              (T.ob (0 ≤ v40 ∧ v40 < (↑(List.length columns2) : Int))
                (T.ob (0 + Int.toNat v40 = 0 + Int.toNat v40)
                  (T.leaf
                    (Ex.normal,
                      h_impl_HarmonicFit_L2 a p c columns v32 (List.set columns2 (0 + Int.toNat v40) (List.getD columns2 (Int.toNat v40) [] ++ [List.getD v38 (Int.toNat v40) 0])) v38 (IntKind.wrap IntKind.i64 (v40 + 1)))))))))
        (T.leaf (Ex.exit 2, h_impl_HarmonicFit_L2 a p c columns v32 columns2 v38 v40)))) :
    Exec VC ps_impl_HarmonicFit (b_impl_HarmonicFit_L2 g_impl_IsSeries g_impl_areMore g_impl_within g_impl_harmonics g_impl_areColumns g_impl_columnFit) (h_impl_HarmonicFit_L2 a p c columns v32 columns2 v38 v40) e_ σ_ := evL_of (lv := lv_impl_HarmonicFit_L2) (rs := [6, 7]) (O := ⟨oc_impl_HarmonicFit a p c, fun _ _ => none⟩) (by kernel_rfl) ht

theorem q_impl_HarmonicFit {P : Program} {g_f : FuncId} {g_impl_IsSeries g_impl_areMore g_impl_within g_impl_harmonics g_impl_areColumns g_impl_columnFit : FuncId} (h_ : Is_impl_HarmonicFit P g_f g_impl_IsSeries g_impl_areMore g_impl_within g_impl_harmonics g_impl_areColumns g_impl_columnFit) (a : List Nat) (p : Nat) (c : Int) (ht : T.ok (fun x_ => x_ = .tup [OS 0 .f32 (hfOut a p c), .b (hfOk a p c)]) (
      T.ob ((VCall P) g_impl_IsSeries [AV.sl (Tag.par [0]) 0 (Cont.f FloatKind.f32 a)] (AV.b (seriesM a)))
        (T.ite (!seriesM a) (T.leaf (AV.tup [AV.sl (Tag.own 0) 0 (Cont.f FloatKind.f32 []), AV.b false]))
          (T.ob ((VCall P) g_impl_areMore [AV.sl (Tag.par [0]) 0 (Cont.f FloatKind.f32 [p])] (AV.b (moreM [p])))
            (T.ite (!moreM [p]) (T.leaf (AV.tup [AV.sl (Tag.own 0) 0 (Cont.f FloatKind.f32 []), AV.b false]))
              (T.ob ((VCall P) g_impl_within [AV.i IntKind.i64 c, AV.i IntKind.i64 1, AV.i IntKind.i64 2] (AV.b (inM c 1 2)))
                (T.ite (!inM c 1 2) (T.leaf (AV.tup [AV.sl (Tag.own 0) 0 (Cont.f FloatKind.f32 []), AV.b false]))
                  (T.ob
                    (IntKind.wrap IntKind.i64 (1 + IntKind.wrap IntKind.i64 (2 * c)) = IntKind.wrap IntKind.i64 (1 + IntKind.wrap IntKind.i64 (2 * c)) ∧
                      0 ≤ IntKind.wrap IntKind.i64 (1 + IntKind.wrap IntKind.i64 (2 * c)) ∧ IntKind.wrap IntKind.i64 (1 + IntKind.wrap IntKind.i64 (2 * c)) ≤ 4294967296)
                    (T.ob
                      (Exec (VCall P) ps_impl_HarmonicFit (VCode.block 0 (VCode.loop (b_impl_HarmonicFit_L0 g_impl_IsSeries g_impl_areMore g_impl_within g_impl_harmonics g_impl_areColumns g_impl_columnFit)))
                        (h_impl_HarmonicFit_L0 a p c (List.replicate (Int.toNat (IntKind.wrap IntKind.i64 (1 + IntKind.wrap IntKind.i64 (2 * c)))) []) 0) Ex.normal
                        (h_impl_HarmonicFit_L0 a p c (hfC (List.length a) p (Int.toNat c)) (↑(List.length a) : Int)))
                      (T.ob
                        ((VCall P) g_impl_areColumns [AV.sl (Tag.par [0]) 0 (Cont.ff FloatKind.f32 (hfC (List.length a) p (Int.toNat c))), AV.i IntKind.i64 (↑(List.length a) : Int)]
                          (AV.b (colsM (hfC (List.length a) p (Int.toNat c)) (Int.toNat (↑(List.length a) : Int)))))
                        (T.ite (!colsM (hfC (List.length a) p (Int.toNat c)) (Int.toNat (↑(List.length a) : Int))) (T.leaf (AV.tup [AV.sl (Tag.own 0) 0 (Cont.f FloatKind.f32 []), AV.b false]))
                          (T.ob
                            ((VCall P) g_impl_columnFit [AV.sl (Tag.par [0]) 0 (Cont.ff FloatKind.f32 (hfC (List.length a) p (Int.toNat c))), AV.sl (Tag.par [1]) 0 (Cont.f FloatKind.f32 a)]
                              (AV.tup
                                [AV.sl (Tag.own 0) 0
                                    (Cont.f FloatKind.f32
                                      (if cfOk (cfG (hfC (List.length a) p (Int.toNat c)) a) (List.length (hfC (List.length a) p (Int.toNat c))) = true then
                                        ifAllM (cfOut (cfG (hfC (List.length a) p (Int.toNat c)) a) (List.length (hfC (List.length a) p (Int.toNat c))))
                                      else [])),
                                  AV.b
                                    (cfOk (cfG (hfC (List.length a) p (Int.toNat c)) a) (List.length (hfC (List.length a) p (Int.toNat c))) &&
                                      finAllM (cfOut (cfG (hfC (List.length a) p (Int.toNat c)) a) (List.length (hfC (List.length a) p (Int.toNat c)))))]))
                            (T.leaf
                              (AV.tup
                                [AV.sl (Tag.own 0) 0
                                    (Cont.f FloatKind.f32
                                      (if cfOk (cfG (hfC (List.length a) p (Int.toNat c)) a) (List.length (hfC (List.length a) p (Int.toNat c))) = true then
                                        ifAllM (cfOut (cfG (hfC (List.length a) p (Int.toNat c)) a) (List.length (hfC (List.length a) p (Int.toNat c))))
                                      else [])),
                                  AV.b
                                    (cfOk (cfG (hfC (List.length a) p (Int.toNat c)) a) (List.length (hfC (List.length a) p (Int.toNat c))) &&
                                      finAllM (cfOut (cfG (hfC (List.length a) p (Int.toNat c)) a) (List.length (hfC (List.length a) p (Int.toNat c)))))])))))))))))))) :
    VCall P g_f [PS [0] .f32 a, .f .f32 p, .i .i64 c] (.tup [OS 0 .f32 (hfOut a p c), .b (hfOk a p c)]) := h_.call_of ps_impl_HarmonicFit ⟨oc_impl_HarmonicFit a p c, fun id σ => match id with | 0 => some (lv_impl_HarmonicFit_L0, .leaf (.normal, h_impl_HarmonicFit_L0 a p c (hfC a.length p c.toNat) a.length)) | _ => none⟩ (by kernel_rfl) ht

-- END impl_HarmonicFit

-- FN spec_HarmonicFit
/-- spec.HarmonicFit: slots 74, results [.t 6, .t 7]; calls [15:g_spec_l02Series, 19:g_spec_l02Above, 24:g_spec_l00In, 35:g_spec_l03Same, 52:g_spec_l03Wave, 71:g_spec_ColumnFit]; names [(a, 0), (period, 1), (count, 2), (a, 3), (period, 4), (count, 5), (columns, 8), (h, 9), (one, 10), (two, 11), (i, 12), (z, 13)] -/
def ps_spec_HarmonicFit : List Nat := [0, 1, 2, 6, 7, 8, 9, 10, 11, 12, 13, 32, 39, 45, 46, 47]
def lv_spec_HarmonicFit_L0 : List Nat := [0, 1, 2, 8, 9]
def lv_spec_HarmonicFit_L2 : List Nat := [0, 1, 2, 8, 9, 10, 11, 45, 46]
def b_spec_HarmonicFit_L2 (g_spec_l02Series g_spec_l02Above g_spec_l00In g_spec_l03Same g_spec_l03Wave g_spec_ColumnFit : FuncId) : VCode :=
  (.seq
   (.region false [
    ⟨some 47, (.bin .lss), [.t 46, .t 45], none⟩])
   (.seq
    (.cond (.t 47)
     .skip
     (.exit 2))
    (.seq
     (.block 3
      (.seq
       (.region false [
        ⟨some 48, .mv, [.t 46], none⟩,
        ⟨some 12, .mv, [.t 48], none⟩])
       (.seq
        (.region false [
         ⟨some 49, .mv, [.t 9], none⟩,
         ⟨some 50, .mv, [.t 12], none⟩,
         ⟨some 51, .mv, [.t 1], none⟩,
         ⟨some 52, (.call g_spec_l03Wave), [.t 49, .t 50, .t 51], none⟩,
         ⟨some 13, .mv, [.t 52], none⟩])
        (.seq
         (.region false [
          ⟨some 53, .mv, [.t 10], none⟩,
          ⟨some 54, .mv, [.t 13], none⟩,
          ⟨some 55, .re, [.t 54], none⟩,
          ⟨some 56, (.lit true (.f .f32 [])), [.t 55], none⟩,
          ⟨some 57, .app, [.t 53, .t 56], none⟩,
          ⟨some 10, .mv, [.t 57], none⟩])
         (.region false [
          ⟨some 58, .mv, [.t 11], none⟩,
          ⟨some 59, .mv, [.t 13], none⟩,
          ⟨some 60, .im, [.t 59], none⟩,
          ⟨some 61, (.lit true (.f .f32 [])), [.t 60], none⟩,
          ⟨some 62, .app, [.t 58, .t 61], none⟩,
          ⟨some 11, .mv, [.t 62], none⟩])))))
     (.region false [
      ⟨some 63, (.bin .add), [.t 46, .k (.i .i64 1)], none⟩,
      ⟨some 46, .mv, [.t 63], none⟩]))))

def b_spec_HarmonicFit_L0 (g_spec_l02Series g_spec_l02Above g_spec_l00In g_spec_l03Same g_spec_l03Wave g_spec_ColumnFit : FuncId) : VCode :=
  (.seq
   (.seq
    (.region false [
     ⟨some 37, .mv, [.t 9], none⟩,
     ⟨some 38, .mv, [.t 2], none⟩,
     ⟨some 39, (.bin .leq), [.t 37, .t 38], none⟩])
    (.cond (.t 39)
     .skip
     (.exit 0)))
   (.seq
    (.block 1
     (.seq
      (.region false [
       ⟨some 42, (.lit true (.f .f32 [])), [], none⟩,
       ⟨some 10, .mv, [.t 42], none⟩])
      (.seq
       (.region false [
        ⟨some 43, (.lit true (.f .f32 [])), [], none⟩,
        ⟨some 11, .mv, [.t 43], none⟩])
       (.seq
        (.seq
         (.region false [
          ⟨some 44, .mv, [.t 0], none⟩,
          ⟨some 45, .len, [.t 44], none⟩,
          ⟨some 46, .mv, [.k (.i .i64 0)], none⟩])
         (.block 2 (.loop (b_spec_HarmonicFit_L2 g_spec_l02Series g_spec_l02Above g_spec_l00In g_spec_l03Same g_spec_l03Wave g_spec_ColumnFit))))
        (.region false [
         ⟨some 64, .mv, [.t 8], none⟩,
         ⟨some 65, .mv, [.t 10], none⟩,
         ⟨some 66, .mv, [.t 11], none⟩,
         ⟨some 67, (.lit true (.ff .f32 [])), [.t 65, .t 66], none⟩,
         ⟨some 68, .app, [.t 64, .t 67], none⟩,
         ⟨some 8, .mv, [.t 68], none⟩])))))
    (.region false [
     ⟨some 40, .mv, [.t 9], none⟩,
     ⟨some 41, (.bin .add), [.t 40, .k (.i .i64 1)], none⟩,
     ⟨some 9, .mv, [.t 41], none⟩])))

def b_spec_HarmonicFit (g_spec_l02Series g_spec_l02Above g_spec_l00In g_spec_l03Same g_spec_l03Wave g_spec_ColumnFit : FuncId) : VCode :=
  (.seq
   (.region false [
    ⟨some 6, (.nilsl (.f .f32 [])), [], none⟩,
    ⟨some 7, .mv, [.k (.b false)], none⟩])
   (.seq
    (.seq
     (.region false [
      ⟨some 14, .mv, [.t 0], none⟩,
      ⟨some 15, (.call g_spec_l02Series), [.t 14], none⟩,
      ⟨some 16, .not, [.t 15], none⟩,
      ⟨some 17, .mv, [.t 16], none⟩,
      ⟨some 18, .mv, [.t 1], some (17, false)⟩,
      ⟨some 19, (.call g_spec_l02Above), [.t 18], some (17, false)⟩,
      ⟨some 20, .not, [.t 19], some (17, false)⟩,
      ⟨some 21, .pick, [.t 17, .k (.b true), .t 20], none⟩,
      ⟨some 22, .mv, [.t 21], none⟩,
      ⟨some 23, .mv, [.t 2], some (22, false)⟩,
      ⟨some 24, (.call g_spec_l00In), [.t 23, .k (.i .i64 1), .k (.i .i64 4)], some (22, false)⟩,
      ⟨some 25, .not, [.t 24], some (22, false)⟩,
      ⟨some 26, .pick, [.t 22, .k (.b true), .t 25], none⟩,
      ⟨some 27, .mv, [.t 26], none⟩,
      ⟨some 28, .mv, [.t 2], some (27, false)⟩,
      ⟨some 29, (.bin .mul), [.k (.i .i64 2), .t 28], some (27, false)⟩,
      ⟨some 30, (.bin .add), [.t 29, .k (.i .i64 1)], some (27, false)⟩,
      ⟨some 31, (.bin .gtr), [.t 30, .k (.i .i64 6)], some (27, false)⟩,
      ⟨some 32, .pick, [.t 27, .k (.b true), .t 31], none⟩])
     (.cond (.t 32)
      (.seq
       (.region false [
        ⟨some 6, (.nilsl (.f .f32 [])), [], none⟩,
        ⟨some 7, .mv, [.k (.b false)], none⟩])
       .ret)
      .skip))
    (.seq
     (.region false [
      ⟨some 33, .mv, [.t 0], none⟩,
      ⟨some 34, .len, [.t 33], none⟩,
      ⟨some 35, (.call g_spec_l03Same), [.t 34, .k (.f .f32 1065353216)], none⟩,
      ⟨some 36, (.lit true (.ff .f32 [])), [.t 35], none⟩,
      ⟨some 8, .mv, [.t 36], none⟩])
     (.seq
      (.seq
       (.region false [
        ⟨some 9, .mv, [.k (.i .i64 1)], none⟩])
       (.block 0 (.loop (b_spec_HarmonicFit_L0 g_spec_l02Series g_spec_l02Above g_spec_l00In g_spec_l03Same g_spec_l03Wave g_spec_ColumnFit))))
      (.seq
       (.region false [
        ⟨some 69, .mv, [.t 8], none⟩,
        ⟨some 70, .mv, [.t 0], none⟩,
        ⟨some 71, (.call g_spec_ColumnFit), [.t 69, .t 70], none⟩,
        ⟨some 72, (.extract 0), [.t 71], none⟩,
        ⟨some 73, (.extract 1), [.t 71], none⟩,
        ⟨some 6, .mv, [.t 72], none⟩,
        ⟨some 7, .mv, [.t 73], none⟩])
       .ret)))))

abbrev Is_spec_HarmonicFit (P : Program) (g_f : FuncId) (g_spec_l02Series g_spec_l02Above g_spec_l00In g_spec_l03Same g_spec_l03Wave g_spec_ColumnFit : FuncId) : Prop := FnIs P g_f 74 [.t 6, .t 7] (b_spec_HarmonicFit g_spec_l02Series g_spec_l02Above g_spec_l00In g_spec_l03Same g_spec_l03Wave g_spec_ColumnFit)

abbrev C_spec_HarmonicFit (P : Program) (g_f : FuncId) : Prop := ∀ (a : List Nat) (p : Nat) (c : Int) (hx : a.length ≤ maxLen), VCall P g_f [PS [0] .f32 a, .f .f32 p, .i .i64 c] (.tup [OS 0 .f32 (hfOut a p c), .b (hfOk a p c)])
def oc1_spec_HarmonicFit (as : List AV) : T AV := match as with | [.sl _ _ (.f .f32 a), .f .f32 p, .i .i64 c] => .leaf (.tup [OS 0 .f32 (hfOut a p c), .b (hfOk a p c)]) | _ => .fail
def oc_spec_HarmonicFit (a : List Nat) (p : Nat) (c : Int) (d : Nat) (as : List AV) : T AV := match d with | 15 => oc1_spec_l02Series as | 19 => oc1_spec_l02Above as | 24 => oc1_spec_l00In as | 35 => .leaf (OS 0 .f32 (List.replicate a.length one32)) | 52 => oc1_spec_l03Wave as | 71 => oc1_spec_ColumnFit as | _ => .fail
def h_spec_HarmonicFit_L0 (a : List Nat) (p : Nat) (c : Int) (columns : LL) (h : Int) : Env := [AV.sl (Tag.par [0]) 0 (Cont.f FloatKind.f32 a), AV.f FloatKind.f32 p, AV.i IntKind.i64 c] ++ anys 5 ++ [.nw 288 0 FloatKind.f32 columns none, .i IntKind.i64 h] ++ anys 64
def h_spec_HarmonicFit_L2 (a : List Nat) (p : Nat) (c : Int) (columns : LL) (h : Int) (columns2 : LL) (one : List Nat) (two : List Nat) (v46 : Int) : Env := [AV.sl (Tag.par [0]) 0 (Cont.f FloatKind.f32 a), AV.f FloatKind.f32 p, AV.i IntKind.i64 c] ++ anys 5 ++ [.nw 288 0 FloatKind.f32 columns2 none, AV.i IntKind.i64 h, .sl (Tag.own 336) 0 (.f FloatKind.f32 one), .sl (Tag.own 344) 0 (.f FloatKind.f32 two)] ++ anys 33 ++ [AV.i IntKind.i64 (↑(List.length a) : Int), .i IntKind.i64 v46] ++ anys 27

theorem q_spec_HarmonicFit_L0 {VC : FuncId → List AV → AV → Prop} {g_spec_l02Series g_spec_l02Above g_spec_l00In g_spec_l03Same g_spec_l03Wave g_spec_ColumnFit : FuncId} (a : List Nat) (p : Nat) (c : Int) (columns : LL) (h : Int) {e_ : Ex} {σ_ : Env} (ht : T.ok (fun x_ => x_ = (e_, σ_)) (
      T.ite (decide (h ≤ c))
        (T.ob
          (Exec VC ps_spec_HarmonicFit (VCode.block 2 (VCode.loop (b_spec_HarmonicFit_L2 g_spec_l02Series g_spec_l02Above g_spec_l00In g_spec_l03Same g_spec_l03Wave g_spec_ColumnFit)))
            (h_spec_HarmonicFit_L2 a p c columns h columns [] [] 0) Ex.normal
            (h_spec_HarmonicFit_L2 a p c columns h columns (tab (List.length a) fun (i : Nat) => Prod.fst (wvM h (↑i : Int) p)) (tab (List.length a) fun (i : Nat) => Prod.snd (wvM h (↑i : Int) p)) (↑(List.length a) : Int)))
          (T.ob (List.length columns + List.length [tab (List.length a) fun (i : Nat) => Prod.fst (wvM h (↑i : Int) p), tab (List.length a) fun (i : Nat) => Prod.snd (wvM h (↑i : Int) p)] ≤ 4294967296)
            (T.leaf
              (Ex.normal,
                h_spec_HarmonicFit_L0 a p c (columns ++ [tab (List.length a) fun (i : Nat) => Prod.fst (wvM h (↑i : Int) p), tab (List.length a) fun (i : Nat) => Prod.snd (wvM h (↑i : Int) p)])
                  (IntKind.wrap IntKind.i64 (h + 1))))))
        (T.leaf (Ex.exit 0, h_spec_HarmonicFit_L0 a p c columns h)))) :
    Exec VC ps_spec_HarmonicFit (b_spec_HarmonicFit_L0 g_spec_l02Series g_spec_l02Above g_spec_l00In g_spec_l03Same g_spec_l03Wave g_spec_ColumnFit) (h_spec_HarmonicFit_L0 a p c columns h) e_ σ_ := evL_of (lv := lv_spec_HarmonicFit_L0) (rs := [6, 7]) (O := ⟨oc_spec_HarmonicFit a p c, fun id σ => match id with | 2 => some (lv_spec_HarmonicFit_L2, .leaf (.normal, h_spec_HarmonicFit_L2 a p c columns h columns (tab a.length fun i => (wvM h (i : Nat) p).1) (tab a.length fun i => (wvM h (i : Nat) p).2) a.length)) | _ => none⟩) (by kernel_rfl) ht

theorem q_spec_HarmonicFit_L2 {VC : FuncId → List AV → AV → Prop} {g_spec_l02Series g_spec_l02Above g_spec_l00In g_spec_l03Same g_spec_l03Wave g_spec_ColumnFit : FuncId} (a : List Nat) (p : Nat) (c : Int) (columns : LL) (h : Int) (columns2 : LL) (one : List Nat) (two : List Nat) (v46 : Int) {e_ : Ex} {σ_ : Env} (ht : T.ok (fun x_ => x_ = (e_, σ_)) (
      T.ite (decide (v46 < (↑(List.length a) : Int)))
        (T.ob (VC g_spec_l03Wave [AV.i IntKind.i64 h, AV.i IntKind.i64 v46, AV.f FloatKind.f32 p] (AV.c FloatKind.f32 (Prod.fst (wvM h v46 p)) (Prod.snd (wvM h v46 p))))
          (T.ob (List.length one + List.length [Prod.fst (wvM h v46 p)] ≤ 4294967296)
            (T.ob (List.length two + List.length [Prod.snd (wvM h v46 p)] ≤ 4294967296)
              (T.leaf (Ex.normal, h_spec_HarmonicFit_L2 a p c columns h columns2 (one ++ [Prod.fst (wvM h v46 p)]) (two ++ [Prod.snd (wvM h v46 p)]) (IntKind.wrap IntKind.i64 (v46 + 1)))))))
        (T.leaf (Ex.exit 2, h_spec_HarmonicFit_L2 a p c columns h columns2 one two v46)))) :
    Exec VC ps_spec_HarmonicFit (b_spec_HarmonicFit_L2 g_spec_l02Series g_spec_l02Above g_spec_l00In g_spec_l03Same g_spec_l03Wave g_spec_ColumnFit) (h_spec_HarmonicFit_L2 a p c columns h columns2 one two v46) e_ σ_ := evL_of (lv := lv_spec_HarmonicFit_L2) (rs := [6, 7]) (O := ⟨oc_spec_HarmonicFit a p c, fun _ _ => none⟩) (by kernel_rfl) ht

theorem q_spec_HarmonicFit {P : Program} {g_f : FuncId} {g_spec_l02Series g_spec_l02Above g_spec_l00In g_spec_l03Same g_spec_l03Wave g_spec_ColumnFit : FuncId} (h_ : Is_spec_HarmonicFit P g_f g_spec_l02Series g_spec_l02Above g_spec_l00In g_spec_l03Same g_spec_l03Wave g_spec_ColumnFit) (a : List Nat) (p : Nat) (c : Int) (ht : T.ok (fun x_ => x_ = .tup [OS 0 .f32 (hfOut a p c), .b (hfOk a p c)]) (
      T.ob ((VCall P) g_spec_l02Series [AV.sl (Tag.par [0]) 0 (Cont.f FloatKind.f32 a)] (AV.b (seriesM a)))
        (T.ite (!seriesM a) (T.leaf (AV.tup [AV.sl (Tag.own 0) 0 (Cont.f FloatKind.f32 []), AV.b false]))
          (T.ob ((VCall P) g_spec_l02Above [AV.f FloatKind.f32 p] (AV.b (finM p && fgt FloatKind.f32 p 0)))
            (T.ite (!(finM p && fgt FloatKind.f32 p 0)) (T.leaf (AV.tup [AV.sl (Tag.own 0) 0 (Cont.f FloatKind.f32 []), AV.b false]))
              (T.ob ((VCall P) g_spec_l00In [AV.i IntKind.i64 c, AV.i IntKind.i64 1, AV.i IntKind.i64 4] (AV.b (inM c 1 4)))
                (T.ite (!inM c 1 4) (T.leaf (AV.tup [AV.sl (Tag.own 0) 0 (Cont.f FloatKind.f32 []), AV.b false]))
                  (T.ite (decide (IntKind.wrap IntKind.i64 (IntKind.wrap IntKind.i64 (2 * c) + 1) > 6)) (T.leaf (AV.tup [AV.sl (Tag.own 0) 0 (Cont.f FloatKind.f32 []), AV.b false]))
                    (T.ob ((VCall P) g_spec_l03Same [AV.i IntKind.i64 (↑(List.length a) : Int), AV.f FloatKind.f32 1065353216] (AV.sl (Tag.own 0) 0 (Cont.f FloatKind.f32 (List.replicate (List.length a) one32))))
                      (T.ob
                        (Exec (VCall P) ps_spec_HarmonicFit (VCode.block 0 (VCode.loop (b_spec_HarmonicFit_L0 g_spec_l02Series g_spec_l02Above g_spec_l00In g_spec_l03Same g_spec_l03Wave g_spec_ColumnFit)))
                          (h_spec_HarmonicFit_L0 a p c [List.replicate (List.length a) one32] 1) Ex.normal (h_spec_HarmonicFit_L0 a p c (hfC (List.length a) p (Int.toNat c)) (c + 1)))
                        (T.ob
                          ((VCall P) g_spec_ColumnFit [AV.sl (Tag.par [0]) 0 (Cont.ff FloatKind.f32 (hfC (List.length a) p (Int.toNat c))), AV.sl (Tag.par [1]) 0 (Cont.f FloatKind.f32 a)]
                            (AV.tup [AV.sl (Tag.own 0) 0 (Cont.f FloatKind.f32 (ftOut (hfC (List.length a) p (Int.toNat c)) a)), AV.b (ftOk (hfC (List.length a) p (Int.toNat c)) a)]))
                          (T.leaf (AV.tup [AV.sl (Tag.own 0) 0 (Cont.f FloatKind.f32 (ftOut (hfC (List.length a) p (Int.toNat c)) a)), AV.b (ftOk (hfC (List.length a) p (Int.toNat c)) a)]))))))))))))) :
    VCall P g_f [PS [0] .f32 a, .f .f32 p, .i .i64 c] (.tup [OS 0 .f32 (hfOut a p c), .b (hfOk a p c)]) := h_.call_of ps_spec_HarmonicFit ⟨oc_spec_HarmonicFit a p c, fun id σ => match id with | 0 => some (lv_spec_HarmonicFit_L0, .leaf (.normal, h_spec_HarmonicFit_L0 a p c (hfC a.length p c.toNat) (c + 1))) | _ => none⟩ (by kernel_rfl) ht

-- END spec_HarmonicFit

theorem hmL_len' (p : Nat) (at0 : Int) : ∀ n, (hmL p at0 n).length = 2 * n + 1
  | 0 => rfl
  | n + 1 => by
    have := hmL_len' p at0 n
    simp only [hmL, List.length_append, this]
    simp; omega
theorem hmL_get (p : Nat) (at0 : Int) (n : Nat) {k : Nat} (h : k < 2 * n + 1) : (hmL p at0 (n + 1)).getD k 0 = (hmL p at0 n).getD k 0 := by
  simp only [hmL, List.getD]
  rw [List.getElem?_append_left (by rw [hmL_len']; exact h)]
theorem hmL_get1 (p : Nat) (at0 : Int) (n : Nat) : (hmL p at0 (n + 1)).getD (2 * n + 1) 0 = (wvM ((n + 1 : Nat) : Int) at0 p).1 := by
  simp only [hmL, List.getD]
  rw [List.getElem?_append_right (by rw [hmL_len']; exact Nat.le_refl _), hmL_len', Nat.sub_self]; rfl
theorem hmL_get2 (p : Nat) (at0 : Int) (n : Nat) : (hmL p at0 (n + 1)).getD (2 * n + 2) 0 = (wvM ((n + 1 : Nat) : Int) at0 p).2 := by
  simp only [hmL, List.getD]
  rw [List.getElem?_append_right (by rw [hmL_len']; omega), hmL_len', show 2 * n + 2 - (2 * n + 1) = 1 by omega]; rfl
theorem hfC_len (m p c : Nat) : (hfC m p c).length = 2 * c + 1 := tab_len _ _
theorem hfC_get (m p c : Nat) {k : Nat} (h : k < 2 * c + 1) : (hfC m p c).getD k [] = tab m fun i => (hmL p (i : Nat) c).getD k 0 := tab_get _ _ _ _ h
theorem tab_const {α : Type} (m : Nat) (x : α) : tab m (fun _ => x) = List.replicate m x := by
  unfold tab; rw [List.map_const', List.length_range]
theorem hfC_zero (m p : Nat) : hfC m p 0 = [List.replicate m one32] := by
  show [tab m fun i => one32] = _
  rw [tab_const]
theorem hfC_start (p c : Nat) : hfC 0 p c = List.replicate (2 * c + 1) [] := by
  show tab (2 * c + 1) (fun _ => ([] : List Nat)) = _
  rw [tab_const]
theorem hfC_succ (m p n : Nat) : hfC m p (n + 1) = hfC m p n ++ [tab m fun i => (wvM ((n + 1 : Nat) : Int) (i : Nat) p).1, tab m fun i => (wvM ((n + 1 : Nat) : Int) (i : Nat) p).2] := by
  unfold hfC
  rw [show 2 * (n + 1) + 1 = (2 * n + 1) + 1 + 1 by omega, tab_succ, tab_succ]
  rw [List.append_assoc]
  congr 1
  · exact tab_congr fun k hk => tab_congr fun i _ => hmL_get p _ n hk
  · have e1 : (tab m fun i => (hmL p (i : Nat) (n + 1)).getD (2 * n + 1) 0) = tab m fun i => (wvM ((n + 1 : Nat) : Int) (i : Nat) p).1 := tab_congr fun i _ => hmL_get1 p _ n
    have e2 : (tab m fun i => (hmL p (i : Nat) (n + 1)).getD (2 * n + 1 + 1) 0) = tab m fun i => (wvM ((n + 1 : Nat) : Int) (i : Nat) p).2 := tab_congr fun i _ => hmL_get2 p _ n
    rw [e1, e2]; rfl
/-- place i is told in the first k columns -/
def hfP (i p c k : Nat) : LL := tab (2 * c + 1) fun k' => if k' < k then tab (i + 1) (fun i => (hmL p (i : Nat) c).getD k' 0) else tab i fun i => (hmL p (i : Nat) c).getD k' 0
theorem hfP_step (i p c k : Nat) (h : k < 2 * c + 1) : (hfP i p c k).set k ((hfP i p c k).getD k [] ++ [(hmL p (i : Nat) c).getD k 0]) = hfP i p c (k + 1) := by
  have e : (hfP i p c k).getD k [] = tab i fun i => (hmL p (i : Nat) c).getD k 0 := by
    unfold hfP; rw [tab_get _ _ _ _ h, if_neg (Nat.lt_irrefl k)]
  rw [e]
  unfold hfP
  rw [tab_set]
  refine tab_congr fun k' hk => ?_
  by_cases e2 : k' = k
  · subst e2; rw [if_pos rfl, if_pos (by omega), tab_succ]
  · rw [if_neg e2]
    by_cases h3 : k' < k
    · rw [if_pos h3, if_pos (by omega)]
    · rw [if_neg h3, if_neg (by omega)]

theorem more_one (p : Nat) : moreM [p] = (finM p && fgt .f32 p 0) := by simp [moreM]

theorem k_impl_HarmonicFit {P : Program} {f g1 g2 g3 g4 g5 g6 : FuncId} (h : Is_impl_HarmonicFit P f g1 g2 g3 g4 g5 g6) (c1 : C_impl_IsSeries P g1) (c2 : C_impl_areMore P g2) (c3 : C_impl_within P g3) (c4 : C_impl_harmonics P g4) (c5 : C_impl_areColumns P g5) (c6 : C_impl_columnFit P g6) : C_impl_HarmonicFit P f := by
  intro a p c hx
  have a2 := c2 [p] (by simp [maxLen_eq])
  refine q_impl_HarmonicFit h a p c ?_
  rw [more_one] at a2 ⊢
  refine ⟨c1 _ hx, fun _ => ⟨fun h1 => ?_, fun h1 => ⟨a2, fun _ => ⟨fun h2 => ?_, fun h2 => ⟨c3 _ _ _, fun _ => ⟨fun h3 => ?_, fun h3 => ?_⟩⟩⟩⟩⟩⟩
  · have h1 := bnot_t h1
    simp only [T.ok, hfOut, hfOk, hfG, h1, Bool.false_and, Bool.false_eq_true, if_false]
  · have h2 := bnot_t h2
    simp only [T.ok, hfOut, hfOk, hfG, h2, Bool.false_and, Bool.and_false, Bool.false_eq_true, if_false]
  · have h3 := bnot_t h3
    simp only [T.ok, hfOut, hfOk, hfG, h3, Bool.false_and, Bool.and_false, Bool.false_eq_true, if_false]
  · have h1 := bnot_f h1
    have h2 := bnot_f h2
    have h3 := bnot_f h3
    have hl := series_len h1
    have hi : 1 ≤ c ∧ c ≤ 2 := by simpa [inM] using h3
    obtain ⟨n, rfl⟩ : ∃ n : Nat, c = n := ⟨c.toNat, by omega⟩
    have w : IntKind.wrap .i64 (1 + IntKind.wrap .i64 (2 * (n : Int))) = (2 * n + 1 : Nat) := by
      rw [wrap64_id (n := 2 * (n : Int)) (by omega) (by omega), wrap64_id (by omega) (by omega)]; omega
    have hG : hfG a p n = true := by unfold hfG; rw [h1, h2, h3]; rfl
    rw [w]
    simp only [Int.toNat_natCast]
    have hcl := hfC_len a.length p n
    refine ⟨⟨trivial, by omega, by omega⟩, fun _ => ⟨?_, fun _ => ⟨?_, fun _ => ⟨fun h4 => ?_, fun h4 => ?_⟩⟩⟩⟩
    · refine for_up (e := .exit 0) a.length (fun i => h_impl_HarmonicFit_L0 a p n (hfC i p n) i) (by show _ = h_impl_HarmonicFit_L0 a p n (hfC 0 p n) _; rw [hfC_start]; rfl) (fun i hi => ?_) ?_
      · refine q_impl_HarmonicFit_L0 _ _ _ _ _ ?_
        simp only [Int.toNat_natCast]
        refine ⟨fun _ => ⟨c4 p n i (by omega) (by omega), fun _ => ⟨?_, fun _ => ?_⟩⟩, fun h => absurd (of_decide_eq_false h) (by omega)⟩
        · have e0 : hfC i p n = hfP i p n 0 := tab_congr fun k _ => by rw [if_neg (by omega)]
          have e1 : hfC (i + 1) p n = hfP i p n (2 * n + 1) := tab_congr fun k hk => by rw [if_pos hk]
          refine for_up (e := .exit 2) (2 * n + 1) (fun k => h_impl_HarmonicFit_L2 a p n (hfC i p n) i (hfP i p n k) (hmL p i n) k) (by show _ = h_impl_HarmonicFit_L2 a p n (hfC i p n) i (hfP i p n 0) (hmL p i n) _; rw [← e0]; rfl) (fun k hk => ?_) ?_
          · have hP : (hfP i p n k).length = 2 * n + 1 := tab_len _ _
            have hg : ((hfP i p n k).getD k []).length = i := by
              unfold hfP; rw [tab_get _ _ _ _ hk, if_neg (Nat.lt_irrefl k), tab_len]
            refine q_impl_HarmonicFit_L2 _ _ _ _ _ _ _ _ ?_
            simp only [Int.toNat_natCast, Nat.zero_add, hmL_len', hfP_step i p n k hk]
            refine ⟨fun _ => ⟨by omega, fun _ => ⟨by omega, fun _ => ⟨by rw [hg]; simp; omega, fun _ => ⟨by omega, fun _ => ⟨trivial, fun _ => ?_⟩⟩⟩⟩⟩, fun h => absurd (of_decide_eq_false h) (by omega)⟩
            show _ = _
            rw [wrap64_id (by omega) (by omega)]; rfl
          · refine q_impl_HarmonicFit_L2 _ _ _ _ _ _ _ _ ?_
            rw [Int.toNat_natCast, hmL_len', ← e1]
            exact ⟨fun h => absurd (of_decide_eq_true h) (by omega), fun _ => rfl⟩
        · show _ = _
          rw [wrap64_id (by omega) (by omega)]; rfl
      · exact q_impl_HarmonicFit_L0 _ _ _ _ _ ⟨fun h => absurd (of_decide_eq_true h) (by omega), fun _ => rfl⟩
    · have hrow : ∀ r ∈ hfC a.length p n, r.length ≤ maxLen := by
        intro r hr
        unfold hfC tab at hr
        simp only [List.mem_map] at hr
        obtain ⟨k, _, rfl⟩ := hr
        simp; exact hx
      have := c5 (hfC a.length p n) a.length (by rw [hcl, maxLen_eq]; omega) hrow (by omega)
      rw [Int.toNat_natCast] at this
      exact this
    · have h4 := bnot_t h4
      simp only [T.ok, hfOut, hfOk, ftOut, ftOk, ftC, Int.toNat_natCast, hG, h4, Bool.false_and, Bool.and_false, Bool.false_eq_true, if_false, if_true]
    · have h4 := bnot_f h4
      obtain ⟨f1, f2, f3⟩ := cols_facts h4
      refine ⟨c6 _ _ f1 (fun i hi => (f2 i hi).2) f3, fun _ => ?_⟩
      simp only [T.ok, hfOut, hfOk, ftOut, ftOk, ftC, ftT, Int.toNat_natCast, hG, h1, h4, Bool.true_and, if_true, ifAllM]
      cases cfOk (cfG (hfC a.length p n) a) (hfC a.length p n).length <;> cases finAllM (cfOut (cfG (hfC a.length p n) a) (hfC a.length p n).length) <;> rfl

theorem k_spec_HarmonicFit {P : Program} {f g1 g2 g3 g4 g5 g6 : FuncId} (h : Is_spec_HarmonicFit P f g1 g2 g3 g4 g5 g6) (c1 : C_spec_l02Series P g1) (c2 : C_spec_l02Above P g2) (c3 : C_spec_l00In P g3) (c4 : C_spec_l03Same P g4) (c5 : C_spec_l03Wave P g5) (c6 : C_spec_ColumnFit P g6) : C_spec_HarmonicFit P f := by
  intro a p c hx
  refine q_spec_HarmonicFit h a p c ⟨c1 _ hx, fun _ => ⟨fun h1 => ?_, fun h1 => ⟨c2 _, fun _ => ⟨fun h2 => ?_, fun h2 => ⟨c3 _ _ _, fun _ => ⟨fun h3 => ?_, fun h3 => ?_⟩⟩⟩⟩⟩⟩
  · have h1 := bnot_t h1
    simp only [T.ok, hfOut, hfOk, hfG, h1, Bool.false_and, Bool.false_eq_true, if_false]
  · have h2 := bnot_t h2
    simp only [T.ok, hfOut, hfOk, hfG, h2, Bool.false_and, Bool.and_false, Bool.false_eq_true, if_false]
  · have h3 : inM c 1 4 = false := bnot_t h3
    have h3 : inM c 1 2 = false := by
      cases hc : inM c 1 2 with
      | false => rfl
      | true => have : 1 ≤ c ∧ c ≤ 2 := by simpa [inM] using hc
                have : inM c 1 4 = true := by simp [inM]; omega
                rw [this] at h3; cases h3
    simp only [T.ok, hfOut, hfOk, hfG, h3, Bool.false_and, Bool.and_false, Bool.false_eq_true, if_false]
  · have h1 := bnot_f h1
    have h2 := bnot_f h2
    have h3 : inM c 1 4 = true := bnot_f h3
    have hi : 1 ≤ c ∧ c ≤ 4 := by simpa [inM] using h3
    rw [wrap64_id (n := 2 * c) (by omega) (by omega), wrap64_id (by omega) (by omega)]
    refine ⟨fun h4 => ?_, fun h4 => ?_⟩
    · have h4 := of_decide_eq_true h4
      have h5 : inM c 1 2 = false := by
        cases hc : inM c 1 2 with
        | false => rfl
        | true => have : 1 ≤ c ∧ c ≤ 2 := by simpa [inM] using hc
                  omega
      simp only [T.ok, hfOut, hfOk, hfG, h5, Bool.false_and, Bool.and_false, Bool.false_eq_true, if_false]
    · have h4 := of_decide_eq_false h4
      have h5 : inM c 1 2 = true := by simp [inM]; omega
      have hG : hfG a p c = true := by unfold hfG; rw [h1, h2, h5]; rfl
      have hl := series_len h1
      obtain ⟨n, rfl⟩ : ∃ n : Nat, c = n := ⟨c.toNat, by omega⟩
      simp only [Int.toNat_natCast]
      have hcl := hfC_len a.length p n
      have hrow : ∀ r ∈ hfC a.length p n, r.length ≤ maxLen := by
        intro r hr
        unfold hfC tab at hr
        simp only [List.mem_map] at hr
        obtain ⟨k, _, rfl⟩ := hr
        simp; exact hx
      refine ⟨c4 _ _ (by omega), fun _ => ⟨?_, fun _ => ⟨c6 _ _ (by rw [hcl, maxLen_eq]; omega) hrow hx, fun _ => ?_⟩⟩⟩
      · refine for_up (e := .exit 0) n (fun k => h_spec_HarmonicFit_L0 a p n (hfC a.length p k) ((k : Int) + 1)) (by show _ = h_spec_HarmonicFit_L0 a p n (hfC a.length p 0) _; rw [hfC_zero]; rfl) (fun k hk => ?_) ?_
        · have hcl2 := hfC_len a.length p k
          refine q_spec_HarmonicFit_L0 _ _ _ _ _ ⟨fun _ => ⟨?_, fun _ => ⟨by rw [hcl2]; simp; omega, fun _ => ?_⟩⟩, fun h => absurd (of_decide_eq_false h) (by omega)⟩
          · refine for_up (e := .exit 2) a.length (fun i => h_spec_HarmonicFit_L2 a p n (hfC a.length p k) ((k : Int) + 1) (hfC a.length p k) (tab i fun i => (wvM ((k : Int) + 1) (i : Nat) p).1) (tab i fun i => (wvM ((k : Int) + 1) (i : Nat) p).2) i) rfl (fun i hi => ?_) ?_
            · refine q_spec_HarmonicFit_L2 _ _ _ _ _ _ _ _ _ ⟨fun _ => ⟨c5 _ _ _ (by omega) (by omega), fun _ => ⟨by simp [tab_len]; omega, fun _ => ⟨by simp [tab_len]; omega, fun _ => ?_⟩⟩⟩, fun h => absurd (of_decide_eq_false h) (by omega)⟩
              show _ = _
              rw [wrap64_id (by omega) (by omega), tab_succ, tab_succ]; rfl
            · exact q_spec_HarmonicFit_L2 _ _ _ _ _ _ _ _ _ ⟨fun h => absurd (of_decide_eq_true h) (by omega), fun _ => rfl⟩
          · show _ = _
            rw [wrap64_id (by omega) (by omega), hfC_succ]; rfl
        · exact q_spec_HarmonicFit_L0 _ _ _ _ _ ⟨fun h => absurd (of_decide_eq_true h) (by omega), fun _ => rfl⟩
      · simp only [T.ok, hfOut, hfOk, Int.toNat_natCast, hG, Bool.true_and, if_true]

end Go.Proofs.LV
