/- Runs of smoothing. -/
import Derived.Test.YtdjjpckpcfkgiaaLvFnY
namespace Go.Proofs.LV
open Go
set_option linter.unusedVariables false
set_option linter.unusedSimpArgs false

structure SSt where
  l : Nat
  s : Nat
  xs : List Nat
  t : Int
def SSt.next (q : SSt) (a b c d x : Nat) : SSt := ⟨ssL q.l q.s q.xs q.t a b c d x, ssS q.l q.s q.xs q.t a b c d x, ssX q.l q.s q.xs q.t a b c d x, ssT q.xs q.t⟩
def runS (a b c d : Nat) (list : List Nat) (q : SSt) : Nat → SSt
  | 0 => q
  | k + 1 => (runS a b c d list q k).next a b c d (list.getD k 0)
def gssN (a b c d : Nat) (list : List Nat) (q : SSt) (k : Nat) : Nat := guessM (runS a b c d list q k).l (runS a b c d list q k).s (runS a b c d list q k).xs (runS a b c d list q k).t d
def misN (a b c d : Nat) (list : List Nat) (q : SSt) (k : Nat) : Nat := ssE (runS a b c d list q k).l (runS a b c d list q k).s (runS a b c d list q k).xs (runS a b c d list q k).t d (list.getD k 0)
def okN (a b c d : Nat) (list : List Nat) (q : SSt) (k : Nat) : Bool := validStateM (runS a b c d list q (k + 1)).l (runS a b c d list q (k + 1)).s (runS a b c d list q (k + 1)).xs (runS a b c d list q (k + 1)).t && finM (misN a b c d list q k)
def runFin (a b c d : Nat) (list : List Nat) (q : SSt) : Bool := allN list.length fun k => okN a b c d list q k
def runOk (a b c d : Nat) (list : List Nat) (q : SSt) : Bool := (seriesM list && (validStateM q.l q.s q.xs q.t && sharesM a b c d)) && runFin a b c d list q
def runG (a b c d : Nat) (list : List Nat) (q : SSt) : List Nat := tab list.length fun k => gssN a b c d list q k
def runMs (a b c d : Nat) (list : List Nat) (q : SSt) : List Nat := tab list.length fun k => misN a b c d list q k
def runZ (a b c d : Nat) (list : List Nat) (q : SSt) : SSt := runS a b c d list q list.length

-- FN impl_run
/-- impl.run: slots 69, results [.row 6 4, .t 7, .t 8, .t 9]; calls [18:g_impl_IsSeries, 22:g_impl_ValidState, 27:g_impl_ValidShares, 33:g_slices_Clone___float32_float32_, 47:g_impl_StepState, 57:g_impl_State__guess]; names [(list, 0), (s, 1), (h, 2), (list, 3), (s, 4), (h, 5), (guesses, 10), (misses, 11), (_, 12), (x, 13), (next, 14), (e, 15), (ok, 16)] -/
def ps_impl_run : List Nat := [0, 1, 2, 4, 5, 6, 7, 8, 9, 10, 11, 13, 14, 15, 16, 29, 37, 38, 39, 40, 52]
def lv_impl_run_L0 : List Nat := [4, 5, 6, 10, 11, 37, 38, 39]
def b_impl_run_L0 (g_impl_IsSeries g_impl_ValidState g_impl_ValidShares g_slices_Clone___float32_float32_ g_impl_StepState g_impl_State__guess : FuncId) : VCode :=
  (.seq
   (.region false [
    ⟨some 40, (.bin .lss), [.t 39, .t 38], none⟩])
   (.seq
    (.cond (.t 40)
     .skip
     (.exit 0))
    (.seq
     (.block 1
      (.seq
       (.region false [
        ⟨some 41, .iaddr, [.t 37, .t 39], none⟩,
        ⟨some 42, .load, [.t 41], none⟩,
        ⟨some 13, .mv, [.t 42], none⟩])
       (.seq
        (.region false [
         ⟨some 44, (.loadN 4), [.t 4], none⟩,
         ⟨some 45, (.loadN 4), [.t 5], none⟩,
         ⟨some 46, .mv, [.t 13], none⟩,
         ⟨some 47, (.call g_impl_StepState), [.t 44, .t 45, .t 46], none⟩,
         ⟨some 43, .mv, [.t 47], none⟩,
         ⟨some 48, (.extract 0), [.t 43], none⟩,
         ⟨some 49, (.extract 1), [.t 43], none⟩,
         ⟨some 50, (.extract 2), [.t 43], none⟩,
         ⟨some 14, (.alloc [(.f .f32 0), (.f .f32 0), (.sl .imm 0 (.f .f32 [])), (.i .i64 0)]), [], none⟩,
         ⟨none, (.storeN 4), [.t 14, .t 48], none⟩,
         ⟨some 15, .mv, [.t 49], none⟩,
         ⟨some 16, .mv, [.t 50], none⟩])
        (.seq
         (.seq
          (.region false [
           ⟨some 51, .mv, [.t 16], none⟩,
           ⟨some 52, .not, [.t 51], none⟩])
          (.cond (.t 52)
           (.seq
            (.region false [
             ⟨some 53, (.build [(.f .f32 0), (.f .f32 0), (.sl .nil 0 (.f .f32 [])), (.i .i64 0)] []), [], none⟩,
             ⟨none, (.storeN 4), [.t 6, .t 53], none⟩,
             ⟨some 7, (.nilsl (.f .f32 [])), [], none⟩,
             ⟨some 8, (.nilsl (.f .f32 [])), [], none⟩,
             ⟨some 9, .mv, [.k (.b false)], none⟩])
            .ret)
           .skip))
         (.seq
          (.region false [
           ⟨some 54, .mv, [.t 10], none⟩,
           ⟨some 55, (.loadN 4), [.t 4], none⟩,
           ⟨some 56, (.loadN 4), [.t 5], none⟩,
           ⟨some 57, (.call g_impl_State__guess), [.t 55, .t 56], none⟩,
           ⟨some 58, (.lit true (.f .f32 [])), [.t 57], none⟩,
           ⟨some 59, .app, [.t 54, .t 58], none⟩,
           ⟨some 60, .mv, [.t 11], none⟩,
           ⟨some 61, .mv, [.t 15], none⟩,
           ⟨some 62, (.lit true (.f .f32 [])), [.t 61], none⟩,
           ⟨some 63, .app, [.t 60, .t 62], none⟩,
           ⟨some 10, .mv, [.t 59], none⟩,
           ⟨some 11, .mv, [.t 63], none⟩])
          (.region false [
           ⟨some 64, (.loadN 4), [.t 14], none⟩,
           ⟨none, (.storeN 4), [.t 4, .t 64], none⟩]))))))
     (.region false [
      ⟨some 65, (.bin .add), [.t 39, .k (.i .i64 1)], none⟩,
      ⟨some 39, .mv, [.t 65], none⟩]))))

def b_impl_run (g_impl_IsSeries g_impl_ValidState g_impl_ValidShares g_slices_Clone___float32_float32_ g_impl_StepState g_impl_State__guess : FuncId) : VCode :=
  (.seq
   (.region false [
    ⟨some 4, .boxN, [.t 1], none⟩,
    ⟨some 5, .boxN, [.t 2], none⟩,
    ⟨some 6, (.alloc [(.f .f32 0), (.f .f32 0), (.sl .imm 0 (.f .f32 [])), (.i .i64 0)]), [], none⟩,
    ⟨some 7, (.nilsl (.f .f32 [])), [], none⟩,
    ⟨some 8, (.nilsl (.f .f32 [])), [], none⟩,
    ⟨some 9, .mv, [.k (.b false)], none⟩])
   (.seq
    (.seq
     (.region false [
      ⟨some 17, .mv, [.t 0], none⟩,
      ⟨some 18, (.call g_impl_IsSeries), [.t 17], none⟩,
      ⟨some 19, .not, [.t 18], none⟩,
      ⟨some 20, .mv, [.t 19], none⟩,
      ⟨some 21, (.loadN 4), [.t 4], some (20, false)⟩,
      ⟨some 22, (.call g_impl_ValidState), [.t 21], some (20, false)⟩,
      ⟨some 23, .not, [.t 22], some (20, false)⟩,
      ⟨some 24, .pick, [.t 20, .k (.b true), .t 23], none⟩,
      ⟨some 25, .mv, [.t 24], none⟩,
      ⟨some 26, (.loadN 4), [.t 5], some (25, false)⟩,
      ⟨some 27, (.call g_impl_ValidShares), [.t 26], some (25, false)⟩,
      ⟨some 28, .not, [.t 27], some (25, false)⟩,
      ⟨some 29, .pick, [.t 25, .k (.b true), .t 28], none⟩])
     (.cond (.t 29)
      (.seq
       (.region false [
        ⟨some 30, (.build [(.f .f32 0), (.f .f32 0), (.sl .nil 0 (.f .f32 [])), (.i .i64 0)] []), [], none⟩,
        ⟨none, (.storeN 4), [.t 6, .t 30], none⟩,
        ⟨some 7, (.nilsl (.f .f32 [])), [], none⟩,
        ⟨some 8, (.nilsl (.f .f32 [])), [], none⟩,
        ⟨some 9, .mv, [.k (.b false)], none⟩])
       .ret)
      .skip))
    (.seq
     (.region false [
      ⟨some 31, (.faddr 2), [.t 4], none⟩,
      ⟨some 32, .load, [.t 31], none⟩,
      ⟨some 33, (.call g_slices_Clone___float32_float32_), [.t 32], none⟩,
      ⟨some 34, (.faddr 2), [.t 4], none⟩,
      ⟨none, .store, [.t 34, .t 33], none⟩])
     (.seq
      (.region false [
       ⟨some 35, (.lit true (.f .f32 [])), [], none⟩,
       ⟨some 36, (.lit true (.f .f32 [])), [], none⟩,
       ⟨some 10, .mv, [.t 35], none⟩,
       ⟨some 11, .mv, [.t 36], none⟩])
      (.seq
       (.seq
        (.region false [
         ⟨some 37, .mv, [.t 0], none⟩,
         ⟨some 38, .len, [.t 37], none⟩,
         ⟨some 39, .mv, [.k (.i .i64 0)], none⟩])
        (.block 0 (.loop (b_impl_run_L0 g_impl_IsSeries g_impl_ValidState g_impl_ValidShares g_slices_Clone___float32_float32_ g_impl_StepState g_impl_State__guess))))
       (.seq
        (.region false [
         ⟨some 66, (.loadN 4), [.t 4], none⟩,
         ⟨some 67, .mv, [.t 10], none⟩,
         ⟨some 68, .mv, [.t 11], none⟩,
         ⟨none, (.storeN 4), [.t 6, .t 66], none⟩,
         ⟨some 7, .mv, [.t 67], none⟩,
         ⟨some 8, .mv, [.t 68], none⟩,
         ⟨some 9, .mv, [.k (.b true)], none⟩])
        .ret))))))

abbrev Is_impl_run (P : Program) (g_f : FuncId) (g_impl_IsSeries g_impl_ValidState g_impl_ValidShares g_slices_Clone___float32_float32_ g_impl_StepState g_impl_State__guess : FuncId) : Prop := FnIs P g_f 69 [.row 6 4, .t 7, .t 8, .t 9] (b_impl_run g_impl_IsSeries g_impl_ValidState g_impl_ValidShares g_slices_Clone___float32_float32_ g_impl_StepState g_impl_State__guess)

abbrev C_impl_run (P : Program) (g_f : FuncId) : Prop := ∀ (list : List Nat) (l : Nat) (s : Nat) (xs : List Nat) (t : Int) (a : Nat) (b : Nat) (c : Nat) (d : Nat) (hl : list.length ≤ maxLen) (hx : xs.length ≤ maxLen), VCall P g_f [PS [0] .f32 list, .agg (ST (.par [1, 2]) l s xs t), .agg (F4 a b c d)] (.tup [.agg (ST (.own 0) (iv (runOk a b c d list ⟨l, s, xs, t⟩) (runZ a b c d list ⟨l, s, xs, t⟩).l) (iv (runOk a b c d list ⟨l, s, xs, t⟩) (runZ a b c d list ⟨l, s, xs, t⟩).s) (ivl (runOk a b c d list ⟨l, s, xs, t⟩) (runZ a b c d list ⟨l, s, xs, t⟩).xs) (ivi (runOk a b c d list ⟨l, s, xs, t⟩) (runZ a b c d list ⟨l, s, xs, t⟩).t)), OS 1 .f32 (ivl (runOk a b c d list ⟨l, s, xs, t⟩) (runG a b c d list ⟨l, s, xs, t⟩)), OS 2 .f32 (ivl (runOk a b c d list ⟨l, s, xs, t⟩) (runMs a b c d list ⟨l, s, xs, t⟩)), .b (runOk a b c d list ⟨l, s, xs, t⟩)])
def oc1_impl_run (as : List AV) : T AV := match as with | [.sl _ _ (.f .f32 list), .agg [.f _ l, .f _ s, .sl _ _ (.f _ xs), .i _ t], .agg [.f _ a, .f _ b, .f _ c, .f _ d]] => .leaf (.tup [.agg (ST (.own 0) (iv (runOk a b c d list ⟨l, s, xs, t⟩) (runZ a b c d list ⟨l, s, xs, t⟩).l) (iv (runOk a b c d list ⟨l, s, xs, t⟩) (runZ a b c d list ⟨l, s, xs, t⟩).s) (ivl (runOk a b c d list ⟨l, s, xs, t⟩) (runZ a b c d list ⟨l, s, xs, t⟩).xs) (ivi (runOk a b c d list ⟨l, s, xs, t⟩) (runZ a b c d list ⟨l, s, xs, t⟩).t)), OS 1 .f32 (ivl (runOk a b c d list ⟨l, s, xs, t⟩) (runG a b c d list ⟨l, s, xs, t⟩)), OS 2 .f32 (ivl (runOk a b c d list ⟨l, s, xs, t⟩) (runMs a b c d list ⟨l, s, xs, t⟩)), .b (runOk a b c d list ⟨l, s, xs, t⟩)]) | _ => .fail
def oc_impl_run (list : List Nat) (l : Nat) (s : Nat) (xs : List Nat) (t : Int) (a : Nat) (b : Nat) (c : Nat) (d : Nat) (d : Nat) (as : List AV) : T AV := match d with | 18 => oc1_impl_IsSeries as | 22 => oc1_impl_ValidState as | 27 => oc1_impl_ValidShares as | 33 => oc1_slices_Clone___float32_float32_ as | 47 => oc1_impl_StepState as | 57 => oc1_impl_State__guess as | _ => .fail
def h_impl_run_L0 (list : List Nat) (l : Nat) (s : Nat) (xs : List Nat) (t : Int) (a : Nat) (b : Nat) (c : Nat) (d : Nat) (s0 : Nat) (s1 : Nat) (s2 : List Nat) (s3 : Int) (h0 : Nat) (h1 : Nat) (h2 : Nat) (h3 : Nat) (v60 : Nat) (v61 : Nat) (v62 : List Nat) (v63 : Int) (guesses : List Nat) (misses : List Nat) (v39 : Int) : Env := anys 4 ++ [.bx (Tag.own 32) [.f FloatKind.f32 s0, .f FloatKind.f32 s1, .sl (Tag.own 264) 0 (.f FloatKind.f32 s2), .i IntKind.i64 s3], .bx (Tag.own 40) [.f FloatKind.f32 h0, .f FloatKind.f32 h1, .f FloatKind.f32 h2, .f FloatKind.f32 h3], .bx (Tag.own 48) [.f FloatKind.f32 v60, .f FloatKind.f32 v61, .sl Tag.imm 0 (.f FloatKind.f32 v62), .i IntKind.i64 v63], .any, .any, .any, .sl (Tag.own 280) 0 (.f FloatKind.f32 guesses), .sl (Tag.own 288) 0 (.f FloatKind.f32 misses)] ++ anys 25 ++ [AV.sl (Tag.par [0]) 0 (Cont.f FloatKind.f32 list), AV.i IntKind.i64 (↑(List.length list) : Int), .i IntKind.i64 v39] ++ anys 29

theorem q_impl_run_L0 {VC : FuncId → List AV → AV → Prop} {g_impl_IsSeries g_impl_ValidState g_impl_ValidShares g_slices_Clone___float32_float32_ g_impl_StepState g_impl_State__guess : FuncId} (list : List Nat) (l : Nat) (s : Nat) (xs : List Nat) (t : Int) (a : Nat) (b : Nat) (c : Nat) (d : Nat) (s0 : Nat) (s1 : Nat) (s2 : List Nat) (s3 : Int) (h0 : Nat) (h1 : Nat) (h2 : Nat) (h3 : Nat) (v60 : Nat) (v61 : Nat) (v62 : List Nat) (v63 : Int) (guesses : List Nat) (misses : List Nat) (v39 : Int) {e_ : Ex} {σ_ : Env} (ht : T.ok (fun x_ => x_ = (e_, σ_)) (
      T.ite (decide (v39 < (↑(List.length list) : Int)))
        (T.ob (0 ≤ v39 ∧ v39 < (↑(List.length list) : Int))
          (T.ob
            (VC g_impl_StepState
              [AV.agg [AV.f FloatKind.f32 s0, AV.f FloatKind.f32 s1, AV.sl (Tag.par [0, 2]) 0 (Cont.f FloatKind.f32 s2), AV.i IntKind.i64 s3],
                AV.agg [AV.f FloatKind.f32 h0, AV.f FloatKind.f32 h1, AV.f FloatKind.f32 h2, AV.f FloatKind.f32 h3], AV.f FloatKind.f32 (List.getD list (Int.toNat v39) 0)]
              (AV.tup
                [AV.agg
                    [AV.f FloatKind.f32 (iv (ssOk s0 s1 s2 s3 h0 h1 h2 h3 (List.getD list (Int.toNat v39) 0)) (ssL s0 s1 s2 s3 h0 h1 h2 h3 (List.getD list (Int.toNat v39) 0))),
                      AV.f FloatKind.f32 (iv (ssOk s0 s1 s2 s3 h0 h1 h2 h3 (List.getD list (Int.toNat v39) 0)) (ssS s0 s1 s2 s3 h0 h1 h2 h3 (List.getD list (Int.toNat v39) 0))),
                      AV.sl (Tag.own 0) 0 (Cont.f FloatKind.f32 (ivl (ssOk s0 s1 s2 s3 h0 h1 h2 h3 (List.getD list (Int.toNat v39) 0)) (ssX s0 s1 s2 s3 h0 h1 h2 h3 (List.getD list (Int.toNat v39) 0)))),
                      AV.i IntKind.i64 (ivi (ssOk s0 s1 s2 s3 h0 h1 h2 h3 (List.getD list (Int.toNat v39) 0)) (ssT s2 s3))],
                  AV.f FloatKind.f32 (iv (ssOk s0 s1 s2 s3 h0 h1 h2 h3 (List.getD list (Int.toNat v39) 0)) (ssE s0 s1 s2 s3 h3 (List.getD list (Int.toNat v39) 0))),
                  AV.b (ssOk s0 s1 s2 s3 h0 h1 h2 h3 (List.getD list (Int.toNat v39) 0))]))
            (T.ob (false = false)
              (T.ite (!ssOk s0 s1 s2 s3 h0 h1 h2 h3 (List.getD list (Int.toNat v39) 0))
                (T.ob (false = false)
                  (T.leaf
                    (Ex.ret,
                      anys 6 ++
                        AV.bx (Tag.own 48) [AV.f FloatKind.f32 0, AV.f FloatKind.f32 0, AV.sl Tag.nil 0 (Cont.f FloatKind.f32 []), AV.i IntKind.i64 0] ::
                          AV.sl Tag.nil 0 (Cont.f FloatKind.f32 []) :: AV.sl Tag.nil 0 (Cont.f FloatKind.f32 []) :: AV.b false :: anys 59)))
                (T.ob
                  (VC g_impl_State__guess
                    [AV.agg [AV.f FloatKind.f32 s0, AV.f FloatKind.f32 s1, AV.sl (Tag.par [0, 2]) 0 (Cont.f FloatKind.f32 s2), AV.i IntKind.i64 s3],
                      AV.agg [AV.f FloatKind.f32 h0, AV.f FloatKind.f32 h1, AV.f FloatKind.f32 h2, AV.f FloatKind.f32 h3]]
                    (AV.f FloatKind.f32 (guessM s0 s1 s2 s3 h3)))
                  (T.ob (List.length guesses + List.length [guessM s0 s1 s2 s3 h3] ≤ 4294967296)
                    (T.ob (List.length misses + List.length [iv (ssOk s0 s1 s2 s3 h0 h1 h2 h3 (List.getD list (Int.toNat v39) 0)) (ssE s0 s1 s2 s3 h3 (List.getD list (Int.toNat v39) 0))] ≤ 4294967296)
                      (T.ob (false = false)
                        (T.leaf
                          (Ex.normal,
                            anys 4 ++
                              AV.bx (Tag.own 32)
                                  [AV.f FloatKind.f32 (iv (ssOk s0 s1 s2 s3 h0 h1 h2 h3 (List.getD list (Int.toNat v39) 0)) (ssL s0 s1 s2 s3 h0 h1 h2 h3 (List.getD list (Int.toNat v39) 0))),
                                    AV.f FloatKind.f32 (iv (ssOk s0 s1 s2 s3 h0 h1 h2 h3 (List.getD list (Int.toNat v39) 0)) (ssS s0 s1 s2 s3 h0 h1 h2 h3 (List.getD list (Int.toNat v39) 0))),
                                    AV.sl (Tag.own 376) 0 (Cont.f FloatKind.f32 (ivl (ssOk s0 s1 s2 s3 h0 h1 h2 h3 (List.getD list (Int.toNat v39) 0)) (ssX s0 s1 s2 s3 h0 h1 h2 h3 (List.getD list (Int.toNat v39) 0)))),
                                    AV.i IntKind.i64 (ivi (ssOk s0 s1 s2 s3 h0 h1 h2 h3 (List.getD list (Int.toNat v39) 0)) (ssT s2 s3))] ::
                                AV.bx (Tag.own 40) [AV.f FloatKind.f32 h0, AV.f FloatKind.f32 h1, AV.f FloatKind.f32 h2, AV.f FloatKind.f32 h3] ::
                                  AV.bx (Tag.own 48) [AV.f FloatKind.f32 v60, AV.f FloatKind.f32 v61, AV.sl Tag.imm 0 (Cont.f FloatKind.f32 v62), AV.i IntKind.i64 v63] ::
                                    AV.any ::
                                      AV.any ::
                                        AV.any ::
                                          AV.sl (Tag.own 280) 0 (Cont.f FloatKind.f32 (guesses ++ [guessM s0 s1 s2 s3 h3])) ::
                                            AV.sl (Tag.own 288) 0
                                                (Cont.f FloatKind.f32 (misses ++ [iv (ssOk s0 s1 s2 s3 h0 h1 h2 h3 (List.getD list (Int.toNat v39) 0)) (ssE s0 s1 s2 s3 h3 (List.getD list (Int.toNat v39) 0))])) ::
                                              (anys 25 ++
                                                AV.sl (Tag.par [0]) 0 (Cont.f FloatKind.f32 list) :: AV.i IntKind.i64 (↑(List.length list) : Int) :: AV.i IntKind.i64 (IntKind.wrap IntKind.i64 (v39 + 1)) :: anys 29)))))))))))
        (T.leaf (Ex.exit 0, h_impl_run_L0 list l s xs t a b c d s0 s1 s2 s3 h0 h1 h2 h3 v60 v61 v62 v63 guesses misses v39)))) :
    Exec VC ps_impl_run (b_impl_run_L0 g_impl_IsSeries g_impl_ValidState g_impl_ValidShares g_slices_Clone___float32_float32_ g_impl_StepState g_impl_State__guess) (h_impl_run_L0 list l s xs t a b c d s0 s1 s2 s3 h0 h1 h2 h3 v60 v61 v62 v63 guesses misses v39) e_ σ_ := evL_of (lv := lv_impl_run_L0) (rs := [6, 7, 8, 9]) (O := ⟨oc_impl_run list l s xs t a b c d, fun _ _ => none⟩) (by kernel_rfl) ht

theorem q_impl_run {P : Program} {g_f : FuncId} {g_impl_IsSeries g_impl_ValidState g_impl_ValidShares g_slices_Clone___float32_float32_ g_impl_StepState g_impl_State__guess : FuncId} (h_ : Is_impl_run P g_f g_impl_IsSeries g_impl_ValidState g_impl_ValidShares g_slices_Clone___float32_float32_ g_impl_StepState g_impl_State__guess) (list : List Nat) (l : Nat) (s : Nat) (xs : List Nat) (t : Int) (a : Nat) (b : Nat) (c : Nat) (d : Nat) (ht : T.ok (fun x_ => x_ = .tup [.agg (ST (.own 0) (iv (runOk a b c d list ⟨l, s, xs, t⟩) (runZ a b c d list ⟨l, s, xs, t⟩).l) (iv (runOk a b c d list ⟨l, s, xs, t⟩) (runZ a b c d list ⟨l, s, xs, t⟩).s) (ivl (runOk a b c d list ⟨l, s, xs, t⟩) (runZ a b c d list ⟨l, s, xs, t⟩).xs) (ivi (runOk a b c d list ⟨l, s, xs, t⟩) (runZ a b c d list ⟨l, s, xs, t⟩).t)), OS 1 .f32 (ivl (runOk a b c d list ⟨l, s, xs, t⟩) (runG a b c d list ⟨l, s, xs, t⟩)), OS 2 .f32 (ivl (runOk a b c d list ⟨l, s, xs, t⟩) (runMs a b c d list ⟨l, s, xs, t⟩)), .b (runOk a b c d list ⟨l, s, xs, t⟩)]) (
      T.ob (false = false)
        (T.ob (false = false)
          (T.ob ((VCall P) g_impl_IsSeries [AV.sl (Tag.par [0]) 0 (Cont.f FloatKind.f32 list)] (AV.b (seriesM list)))
            (T.ite (!seriesM list)
              (T.ob (false = false)
                (T.leaf
                  (AV.tup
                    [AV.agg [AV.f FloatKind.f32 0, AV.f FloatKind.f32 0, AV.sl (Tag.own 0) 0 (Cont.f FloatKind.f32 []), AV.i IntKind.i64 0], AV.sl (Tag.own 1) 0 (Cont.f FloatKind.f32 []),
                      AV.sl (Tag.own 2) 0 (Cont.f FloatKind.f32 []), AV.b false])))
              (T.ob ((VCall P) g_impl_ValidState [AV.agg [AV.f FloatKind.f32 l, AV.f FloatKind.f32 s, AV.sl (Tag.par [0, 2]) 0 (Cont.f FloatKind.f32 xs), AV.i IntKind.i64 t]] (AV.b (validStateM l s xs t)))
                (T.ite (!validStateM l s xs t)
                  (T.ob (false = false)
                    (T.leaf
                      (AV.tup
                        [AV.agg [AV.f FloatKind.f32 0, AV.f FloatKind.f32 0, AV.sl (Tag.own 0) 0 (Cont.f FloatKind.f32 []), AV.i IntKind.i64 0], AV.sl (Tag.own 1) 0 (Cont.f FloatKind.f32 []),
                          AV.sl (Tag.own 2) 0 (Cont.f FloatKind.f32 []), AV.b false])))
                  (T.ob ((VCall P) g_impl_ValidShares [AV.agg [AV.f FloatKind.f32 a, AV.f FloatKind.f32 b, AV.f FloatKind.f32 c, AV.f FloatKind.f32 d]] (AV.b (sharesM a b c d)))
                    (T.ite (!sharesM a b c d)
                      (T.ob (false = false)
                        (T.leaf
                          (AV.tup
                            [AV.agg [AV.f FloatKind.f32 0, AV.f FloatKind.f32 0, AV.sl (Tag.own 0) 0 (Cont.f FloatKind.f32 []), AV.i IntKind.i64 0], AV.sl (Tag.own 1) 0 (Cont.f FloatKind.f32 []),
                              AV.sl (Tag.own 2) 0 (Cont.f FloatKind.f32 []), AV.b false])))
                      (T.ob ((VCall P) g_slices_Clone___float32_float32_ [AV.sl (Tag.par [0]) 0 (Cont.f FloatKind.f32 xs)] (AV.sl (Tag.own 0) 0 (Cont.f FloatKind.f32 xs)))
                        (T.ob (false = false)
                          (T.ite (runFin a b c d list { l := l, s := s, xs := xs, t := t })
                            (T.ob
                              (Exec (VCall P) ps_impl_run (VCode.block 0 (VCode.loop (b_impl_run_L0 g_impl_IsSeries g_impl_ValidState g_impl_ValidShares g_slices_Clone___float32_float32_ g_impl_StepState g_impl_State__guess)))
                                (h_impl_run_L0 list l s xs t a b c d l s xs t a b c d 0 0 [] 0 [] [] 0) Ex.normal
                                (h_impl_run_L0 list l s xs t a b c d (SSt.l (runZ a b c d list { l := l, s := s, xs := xs, t := t })) (SSt.s (runZ a b c d list { l := l, s := s, xs := xs, t := t }))
                                  (SSt.xs (runZ a b c d list { l := l, s := s, xs := xs, t := t })) (SSt.t (runZ a b c d list { l := l, s := s, xs := xs, t := t })) a b c d 0 0 [] 0
                                  (runG a b c d list { l := l, s := s, xs := xs, t := t }) (runMs a b c d list { l := l, s := s, xs := xs, t := t }) (↑(List.length list) : Int)))
                              (T.ob (false = false)
                                (T.leaf
                                  (AV.tup
                                    [AV.agg
                                        [AV.f FloatKind.f32 (SSt.l (runZ a b c d list { l := l, s := s, xs := xs, t := t })), AV.f FloatKind.f32 (SSt.s (runZ a b c d list { l := l, s := s, xs := xs, t := t })),
                                          AV.sl (Tag.own 0) 0 (Cont.f FloatKind.f32 (SSt.xs (runZ a b c d list { l := l, s := s, xs := xs, t := t }))),
                                          AV.i IntKind.i64 (SSt.t (runZ a b c d list { l := l, s := s, xs := xs, t := t }))],
                                      AV.sl (Tag.own 1) 0 (Cont.f FloatKind.f32 (runG a b c d list { l := l, s := s, xs := xs, t := t })),
                                      AV.sl (Tag.own 2) 0 (Cont.f FloatKind.f32 (runMs a b c d list { l := l, s := s, xs := xs, t := t })), AV.b true]))))
                            (T.ob
                              (Exec (VCall P) ps_impl_run (VCode.block 0 (VCode.loop (b_impl_run_L0 g_impl_IsSeries g_impl_ValidState g_impl_ValidShares g_slices_Clone___float32_float32_ g_impl_StepState g_impl_State__guess)))
                                (h_impl_run_L0 list l s xs t a b c d l s xs t a b c d 0 0 [] 0 [] [] 0) Ex.ret
                                (anys 6 ++
                                  AV.bx (Tag.own 48) [AV.f FloatKind.f32 0, AV.f FloatKind.f32 0, AV.sl Tag.nil 0 (Cont.f FloatKind.f32 []), AV.i IntKind.i64 0] ::
                                    AV.sl Tag.nil 0 (Cont.f FloatKind.f32 []) :: AV.sl Tag.nil 0 (Cont.f FloatKind.f32 []) :: AV.b false :: anys 59))
                              (T.leaf
                                (AV.tup
                                  [AV.agg [AV.f FloatKind.f32 0, AV.f FloatKind.f32 0, AV.sl (Tag.own 0) 0 (Cont.f FloatKind.f32 []), AV.i IntKind.i64 0], AV.sl (Tag.own 1) 0 (Cont.f FloatKind.f32 []),
                                    AV.sl (Tag.own 2) 0 (Cont.f FloatKind.f32 []), AV.b false]))))))))))))))) :
    VCall P g_f [PS [0] .f32 list, .agg (ST (.par [1, 2]) l s xs t), .agg (F4 a b c d)] (.tup [.agg (ST (.own 0) (iv (runOk a b c d list ⟨l, s, xs, t⟩) (runZ a b c d list ⟨l, s, xs, t⟩).l) (iv (runOk a b c d list ⟨l, s, xs, t⟩) (runZ a b c d list ⟨l, s, xs, t⟩).s) (ivl (runOk a b c d list ⟨l, s, xs, t⟩) (runZ a b c d list ⟨l, s, xs, t⟩).xs) (ivi (runOk a b c d list ⟨l, s, xs, t⟩) (runZ a b c d list ⟨l, s, xs, t⟩).t)), OS 1 .f32 (ivl (runOk a b c d list ⟨l, s, xs, t⟩) (runG a b c d list ⟨l, s, xs, t⟩)), OS 2 .f32 (ivl (runOk a b c d list ⟨l, s, xs, t⟩) (runMs a b c d list ⟨l, s, xs, t⟩)), .b (runOk a b c d list ⟨l, s, xs, t⟩)]) := h_.call_of ps_impl_run ⟨oc_impl_run list l s xs t a b c d, fun id σ => match id with | 0 => some (lv_impl_run_L0, .ite (runFin a b c d list ⟨l, s, xs, t⟩) (.leaf (.normal, h_impl_run_L0 list l s xs t a b c d (runZ a b c d list ⟨l, s, xs, t⟩).l (runZ a b c d list ⟨l, s, xs, t⟩).s (runZ a b c d list ⟨l, s, xs, t⟩).xs (runZ a b c d list ⟨l, s, xs, t⟩).t a b c d 0 0 [] 0 (runG a b c d list ⟨l, s, xs, t⟩) (runMs a b c d list ⟨l, s, xs, t⟩) list.length)) (.leaf (.ret, anys 6 ++ .bx (.own 48) [.f .f32 0, .f .f32 0, .sl .nil 0 (.f .f32 []), .i .i64 0] :: .sl .nil 0 (.f .f32 []) :: .sl .nil 0 (.f .f32 []) :: .b false :: anys 59))) | _ => none⟩ (by kernel_rfl) ht

-- END impl_run

-- FN spec_l04Run
/-- spec.l04Run: slots 73, results [.row 6 4, .t 7, .t 8, .t 9]; calls [19:g_spec_l04Can, 23:g_spec_l02Series, 28:g_spec_l04Own, 38:g_spec_l04Guess, 45:g_spec_l04Step, 49:g_spec_l01Finite, 53:g_spec_l01Finite, 57:g_spec_l04Is]; names [(list, 0), (s, 1), (h, 2), (list, 3), (s, 4), (h, 5), (now, 10), (guesses, 11), (misses, 12), (i, 13), (guess, 14), (next, 15), (e, 16)] -/
def ps_spec_l04Run : List Nat := [0, 1, 2, 6, 7, 8, 9, 10, 11, 12, 13, 14, 15, 16, 25, 34, 59]
def lv_spec_l04Run_L0 : List Nat := [0, 2, 6, 10, 11, 12, 13]
def b_spec_l04Run_L0 (g_spec_l04Can g_spec_l02Series g_spec_l04Own g_spec_l04Guess g_spec_l04Step g_spec_l01Finite g_spec_l04Is : FuncId) : VCode :=
  (.seq
   (.seq
    (.region false [
     ⟨some 31, .mv, [.t 13], none⟩,
     ⟨some 32, .mv, [.t 0], none⟩,
     ⟨some 33, .len, [.t 32], none⟩,
     ⟨some 34, (.bin .lss), [.t 31, .t 33], none⟩])
    (.cond (.t 34)
     .skip
     (.exit 0)))
   (.seq
    (.block 1
     (.seq
      (.region false [
       ⟨some 37, .mv, [.t 2], none⟩,
       ⟨some 38, (.call g_spec_l04Guess), [.t 10, .t 37], none⟩,
       ⟨some 14, .mv, [.t 38], none⟩])
      (.seq
       (.region false [
        ⟨some 40, .mv, [.t 2], none⟩,
        ⟨some 41, .mv, [.t 0], none⟩,
        ⟨some 42, .mv, [.t 13], none⟩,
        ⟨some 43, .iaddr, [.t 41, .t 42], none⟩,
        ⟨some 44, .load, [.t 43], none⟩,
        ⟨some 45, (.call g_spec_l04Step), [.t 10, .t 40, .t 44], none⟩,
        ⟨some 39, .mv, [.t 45], none⟩,
        ⟨some 46, (.extract 0), [.t 39], none⟩,
        ⟨some 47, (.extract 1), [.t 39], none⟩,
        ⟨some 15, (.alloc [(.f .f32 0), (.f .f32 0), (.sl .imm 0 (.f .f32 [])), (.i .i64 0)]), [], none⟩,
        ⟨none, (.storeN 4), [.t 15, .t 46], none⟩,
        ⟨some 16, .mv, [.t 47], none⟩])
       (.seq
        (.seq
         (.region false [
          ⟨some 48, .mv, [.t 14], none⟩,
          ⟨some 49, (.call g_spec_l01Finite), [.t 48], none⟩,
          ⟨some 50, .not, [.t 49], none⟩,
          ⟨some 51, .mv, [.t 50], none⟩,
          ⟨some 52, .mv, [.t 16], some (51, false)⟩,
          ⟨some 53, (.call g_spec_l01Finite), [.t 52], some (51, false)⟩,
          ⟨some 54, .not, [.t 53], some (51, false)⟩,
          ⟨some 55, .pick, [.t 51, .k (.b true), .t 54], none⟩,
          ⟨some 56, .mv, [.t 55], none⟩,
          ⟨some 57, (.call g_spec_l04Is), [.t 15], some (56, false)⟩,
          ⟨some 58, .not, [.t 57], some (56, false)⟩,
          ⟨some 59, .pick, [.t 56, .k (.b true), .t 58], none⟩])
         (.cond (.t 59)
          (.seq
           (.region false [
            ⟨some 60, (.build [(.f .f32 0), (.f .f32 0), (.sl .nil 0 (.f .f32 [])), (.i .i64 0)] []), [], none⟩,
            ⟨none, (.storeN 4), [.t 6, .t 60], none⟩,
            ⟨some 7, (.nilsl (.f .f32 [])), [], none⟩,
            ⟨some 8, (.nilsl (.f .f32 [])), [], none⟩,
            ⟨some 9, .mv, [.k (.b false)], none⟩])
           .ret)
          .skip))
        (.seq
         (.region false [
          ⟨some 61, .mv, [.t 11], none⟩,
          ⟨some 62, .mv, [.t 14], none⟩,
          ⟨some 63, (.lit true (.f .f32 [])), [.t 62], none⟩,
          ⟨some 64, .app, [.t 61, .t 63], none⟩,
          ⟨some 11, .mv, [.t 64], none⟩])
         (.seq
          (.region false [
           ⟨some 65, .mv, [.t 12], none⟩,
           ⟨some 66, .mv, [.t 16], none⟩,
           ⟨some 67, (.lit true (.f .f32 [])), [.t 66], none⟩,
           ⟨some 68, .app, [.t 65, .t 67], none⟩,
           ⟨some 12, .mv, [.t 68], none⟩])
          (.region false [
           ⟨some 69, (.loadN 4), [.t 15], none⟩,
           ⟨none, (.storeN 4), [.t 10, .t 69], none⟩])))))))
    (.region false [
     ⟨some 35, .mv, [.t 13], none⟩,
     ⟨some 36, (.bin .add), [.t 35, .k (.i .i64 1)], none⟩,
     ⟨some 13, .mv, [.t 36], none⟩])))

def b_spec_l04Run (g_spec_l04Can g_spec_l02Series g_spec_l04Own g_spec_l04Guess g_spec_l04Step g_spec_l01Finite g_spec_l04Is : FuncId) : VCode :=
  (.seq
   (.region false [
    ⟨some 6, (.alloc [(.f .f32 0), (.f .f32 0), (.sl .imm 0 (.f .f32 [])), (.i .i64 0)]), [], none⟩,
    ⟨some 7, (.nilsl (.f .f32 [])), [], none⟩,
    ⟨some 8, (.nilsl (.f .f32 [])), [], none⟩,
    ⟨some 9, .mv, [.k (.b false)], none⟩])
   (.seq
    (.seq
     (.region false [
      ⟨some 17, .mv, [.t 1], none⟩,
      ⟨some 18, .mv, [.t 2], none⟩,
      ⟨some 19, (.call g_spec_l04Can), [.t 17, .t 18], none⟩,
      ⟨some 20, .not, [.t 19], none⟩,
      ⟨some 21, .mv, [.t 20], none⟩,
      ⟨some 22, .mv, [.t 0], some (21, false)⟩,
      ⟨some 23, (.call g_spec_l02Series), [.t 22], some (21, false)⟩,
      ⟨some 24, .not, [.t 23], some (21, false)⟩,
      ⟨some 25, .pick, [.t 21, .k (.b true), .t 24], none⟩])
     (.cond (.t 25)
      (.seq
       (.region false [
        ⟨some 26, (.build [(.f .f32 0), (.f .f32 0), (.sl .nil 0 (.f .f32 [])), (.i .i64 0)] []), [], none⟩,
        ⟨none, (.storeN 4), [.t 6, .t 26], none⟩,
        ⟨some 7, (.nilsl (.f .f32 [])), [], none⟩,
        ⟨some 8, (.nilsl (.f .f32 [])), [], none⟩,
        ⟨some 9, .mv, [.k (.b false)], none⟩])
       .ret)
      .skip))
    (.seq
     (.region false [
      ⟨some 27, .mv, [.t 1], none⟩,
      ⟨some 28, (.call g_spec_l04Own), [.t 27], none⟩,
      ⟨some 10, (.alloc [(.f .f32 0), (.f .f32 0), (.sl .imm 0 (.f .f32 [])), (.i .i64 0)]), [], none⟩,
      ⟨none, (.storeN 4), [.t 10, .t 28], none⟩])
     (.seq
      (.region false [
       ⟨some 29, (.lit true (.f .f32 [])), [], none⟩,
       ⟨some 11, .mv, [.t 29], none⟩])
      (.seq
       (.region false [
        ⟨some 30, (.lit true (.f .f32 [])), [], none⟩,
        ⟨some 12, .mv, [.t 30], none⟩])
       (.seq
        (.seq
         (.region false [
          ⟨some 13, .mv, [.k (.i .i64 0)], none⟩])
         (.block 0 (.loop (b_spec_l04Run_L0 g_spec_l04Can g_spec_l02Series g_spec_l04Own g_spec_l04Guess g_spec_l04Step g_spec_l01Finite g_spec_l04Is))))
        (.seq
         (.region false [
          ⟨some 70, (.loadN 4), [.t 10], none⟩,
          ⟨some 71, .mv, [.t 11], none⟩,
          ⟨some 72, .mv, [.t 12], none⟩,
          ⟨none, (.storeN 4), [.t 6, .t 70], none⟩,
          ⟨some 7, .mv, [.t 71], none⟩,
          ⟨some 8, .mv, [.t 72], none⟩,
          ⟨some 9, .mv, [.k (.b true)], none⟩])
         .ret)))))))

abbrev Is_spec_l04Run (P : Program) (g_f : FuncId) (g_spec_l04Can g_spec_l02Series g_spec_l04Own g_spec_l04Guess g_spec_l04Step g_spec_l01Finite g_spec_l04Is : FuncId) : Prop := FnIs P g_f 73 [.row 6 4, .t 7, .t 8, .t 9] (b_spec_l04Run g_spec_l04Can g_spec_l02Series g_spec_l04Own g_spec_l04Guess g_spec_l04Step g_spec_l01Finite g_spec_l04Is)

abbrev C_spec_l04Run (P : Program) (g_f : FuncId) : Prop := ∀ (list : List Nat) (l : Nat) (s : Nat) (xs : List Nat) (t : Int) (a : Nat) (b : Nat) (c : Nat) (d : Nat) (hl : list.length ≤ maxLen) (hx : xs.length ≤ maxLen), VCall P g_f [PS [0] .f32 list, .bx (.par [1]) (ST (.par [1, 2]) l s xs t), .bx (.par [2]) (F4 a b c d)] (.tup [.agg (ST (.own 0) (iv (runOk a b c d list ⟨l, s, xs, t⟩) (runZ a b c d list ⟨l, s, xs, t⟩).l) (iv (runOk a b c d list ⟨l, s, xs, t⟩) (runZ a b c d list ⟨l, s, xs, t⟩).s) (ivl (runOk a b c d list ⟨l, s, xs, t⟩) (runZ a b c d list ⟨l, s, xs, t⟩).xs) (ivi (runOk a b c d list ⟨l, s, xs, t⟩) (runZ a b c d list ⟨l, s, xs, t⟩).t)), OS 1 .f32 (ivl (runOk a b c d list ⟨l, s, xs, t⟩) (runG a b c d list ⟨l, s, xs, t⟩)), OS 2 .f32 (ivl (runOk a b c d list ⟨l, s, xs, t⟩) (runMs a b c d list ⟨l, s, xs, t⟩)), .b (runOk a b c d list ⟨l, s, xs, t⟩)])
def oc1_spec_l04Run (as : List AV) : T AV := match as with | [.sl _ _ (.f .f32 list), .bx _ [.f _ l, .f _ s, .sl _ _ (.f _ xs), .i _ t], .bx _ [.f _ a, .f _ b, .f _ c, .f _ d]] => .leaf (.tup [.agg (ST (.own 0) (iv (runOk a b c d list ⟨l, s, xs, t⟩) (runZ a b c d list ⟨l, s, xs, t⟩).l) (iv (runOk a b c d list ⟨l, s, xs, t⟩) (runZ a b c d list ⟨l, s, xs, t⟩).s) (ivl (runOk a b c d list ⟨l, s, xs, t⟩) (runZ a b c d list ⟨l, s, xs, t⟩).xs) (ivi (runOk a b c d list ⟨l, s, xs, t⟩) (runZ a b c d list ⟨l, s, xs, t⟩).t)), OS 1 .f32 (ivl (runOk a b c d list ⟨l, s, xs, t⟩) (runG a b c d list ⟨l, s, xs, t⟩)), OS 2 .f32 (ivl (runOk a b c d list ⟨l, s, xs, t⟩) (runMs a b c d list ⟨l, s, xs, t⟩)), .b (runOk a b c d list ⟨l, s, xs, t⟩)]) | _ => .fail
def oc_spec_l04Run (list : List Nat) (l : Nat) (s : Nat) (xs : List Nat) (t : Int) (a : Nat) (b : Nat) (c : Nat) (d : Nat) (d : Nat) (as : List AV) : T AV := match d with | 19 => oc1_spec_l04Can as | 23 => oc1_spec_l02Series as | 28 => oc1_spec_l04Own as | 38 => oc1_spec_l04Guess as | 45 => oc1_spec_l04Step as | 49 => oc1_spec_l01Finite as | 53 => oc1_spec_l01Finite as | 57 => oc1_spec_l04Is as | _ => .fail
def h_spec_l04Run_L0 (list : List Nat) (l : Nat) (s : Nat) (xs : List Nat) (t : Int) (a : Nat) (b : Nat) (c : Nat) (d : Nat) (v60 : Nat) (v61 : Nat) (v62 : List Nat) (v63 : Int) (now0 : Nat) (now1 : Nat) (now2 : List Nat) (now3 : Int) (guesses : List Nat) (misses : List Nat) (i : Int) : Env := [AV.sl (Tag.par [0]) 0 (Cont.f FloatKind.f32 list), .any, AV.bx (Tag.par [2]) [AV.f FloatKind.f32 a, AV.f FloatKind.f32 b, AV.f FloatKind.f32 c, AV.f FloatKind.f32 d], .any, .any, .any, .bx (Tag.own 48) [.f FloatKind.f32 v60, .f FloatKind.f32 v61, .sl Tag.imm 0 (.f FloatKind.f32 v62), .i IntKind.i64 v63], .any, .any, .any, .bx (Tag.own 80) [.f FloatKind.f32 now0, .f FloatKind.f32 now1, .sl (Tag.own 224) 0 (.f FloatKind.f32 now2), .i IntKind.i64 now3], .sl (Tag.own 232) 0 (.f FloatKind.f32 guesses), .sl (Tag.own 240) 0 (.f FloatKind.f32 misses), .i IntKind.i64 i] ++ anys 59

theorem q_spec_l04Run_L0 {VC : FuncId → List AV → AV → Prop} {g_spec_l04Can g_spec_l02Series g_spec_l04Own g_spec_l04Guess g_spec_l04Step g_spec_l01Finite g_spec_l04Is : FuncId} (list : List Nat) (l : Nat) (s : Nat) (xs : List Nat) (t : Int) (a : Nat) (b : Nat) (c : Nat) (d : Nat) (v60 : Nat) (v61 : Nat) (v62 : List Nat) (v63 : Int) (now0 : Nat) (now1 : Nat) (now2 : List Nat) (now3 : Int) (guesses : List Nat) (misses : List Nat) (i : Int) {e_ : Ex} {σ_ : Env} (ht : T.ok (fun x_ => x_ = (e_, σ_)) (
      T.ite (decide (i < (↑(List.length list) : Int)))
        (T.ob
          (VC g_spec_l04Guess
            [AV.bx (Tag.par [0]) [AV.f FloatKind.f32 now0, AV.f FloatKind.f32 now1, AV.sl (Tag.par [0, 2]) 0 (Cont.f FloatKind.f32 now2), AV.i IntKind.i64 now3],
              AV.bx (Tag.par [1]) [AV.f FloatKind.f32 a, AV.f FloatKind.f32 b, AV.f FloatKind.f32 c, AV.f FloatKind.f32 d]]
            (AV.f FloatKind.f32 (guessM now0 now1 now2 now3 d)))
          (T.ob (0 ≤ i ∧ i < (↑(List.length list) : Int))
            (T.ob
              (VC g_spec_l04Step
                [AV.bx (Tag.par [0]) [AV.f FloatKind.f32 now0, AV.f FloatKind.f32 now1, AV.sl (Tag.par [0, 2]) 0 (Cont.f FloatKind.f32 now2), AV.i IntKind.i64 now3],
                  AV.bx (Tag.par [1]) [AV.f FloatKind.f32 a, AV.f FloatKind.f32 b, AV.f FloatKind.f32 c, AV.f FloatKind.f32 d], AV.f FloatKind.f32 (List.getD list (Int.toNat i) 0)]
                (AV.tup
                  [AV.agg
                      [AV.f FloatKind.f32 (ssL now0 now1 now2 now3 a b c d (List.getD list (Int.toNat i) 0)), AV.f FloatKind.f32 (ssS now0 now1 now2 now3 a b c d (List.getD list (Int.toNat i) 0)),
                        AV.sl (Tag.own 0) 0 (Cont.f FloatKind.f32 (ssX now0 now1 now2 now3 a b c d (List.getD list (Int.toNat i) 0))), AV.i IntKind.i64 (ssT now2 now3)],
                    AV.f FloatKind.f32 (ssE now0 now1 now2 now3 d (List.getD list (Int.toNat i) 0))]))
              (T.ob (false = false)
                (T.ob (VC g_spec_l01Finite [AV.f FloatKind.f32 (guessM now0 now1 now2 now3 d)] (AV.b (finM (guessM now0 now1 now2 now3 d))))
                  (T.ite (!finM (guessM now0 now1 now2 now3 d))
                    (T.ob (false = false)
                      (T.leaf
                        (Ex.ret,
                          anys 6 ++
                            AV.bx (Tag.own 48) [AV.f FloatKind.f32 0, AV.f FloatKind.f32 0, AV.sl Tag.nil 0 (Cont.f FloatKind.f32 []), AV.i IntKind.i64 0] ::
                              AV.sl Tag.nil 0 (Cont.f FloatKind.f32 []) :: AV.sl Tag.nil 0 (Cont.f FloatKind.f32 []) :: AV.b false :: anys 63)))
                    (T.ob (VC g_spec_l01Finite [AV.f FloatKind.f32 (ssE now0 now1 now2 now3 d (List.getD list (Int.toNat i) 0))] (AV.b (finM (ssE now0 now1 now2 now3 d (List.getD list (Int.toNat i) 0)))))
                      (T.ite (!finM (ssE now0 now1 now2 now3 d (List.getD list (Int.toNat i) 0)))
                        (T.ob (false = false)
                          (T.leaf
                            (Ex.ret,
                              anys 6 ++
                                AV.bx (Tag.own 48) [AV.f FloatKind.f32 0, AV.f FloatKind.f32 0, AV.sl Tag.nil 0 (Cont.f FloatKind.f32 []), AV.i IntKind.i64 0] ::
                                  AV.sl Tag.nil 0 (Cont.f FloatKind.f32 []) :: AV.sl Tag.nil 0 (Cont.f FloatKind.f32 []) :: AV.b false :: anys 63)))
                        (T.ob
                          (VC g_spec_l04Is
                            [AV.bx (Tag.par [0])
                                [AV.f FloatKind.f32 (ssL now0 now1 now2 now3 a b c d (List.getD list (Int.toNat i) 0)), AV.f FloatKind.f32 (ssS now0 now1 now2 now3 a b c d (List.getD list (Int.toNat i) 0)),
                                  AV.sl (Tag.par [0, 2]) 0 (Cont.f FloatKind.f32 (ssX now0 now1 now2 now3 a b c d (List.getD list (Int.toNat i) 0))), AV.i IntKind.i64 (ssT now2 now3)]]
                            (AV.b
                              (validStateM (ssL now0 now1 now2 now3 a b c d (List.getD list (Int.toNat i) 0)) (ssS now0 now1 now2 now3 a b c d (List.getD list (Int.toNat i) 0))
                                (ssX now0 now1 now2 now3 a b c d (List.getD list (Int.toNat i) 0)) (ssT now2 now3))))
                          (T.ite
                            (!validStateM (ssL now0 now1 now2 now3 a b c d (List.getD list (Int.toNat i) 0)) (ssS now0 now1 now2 now3 a b c d (List.getD list (Int.toNat i) 0))
                                (ssX now0 now1 now2 now3 a b c d (List.getD list (Int.toNat i) 0)) (ssT now2 now3))
                            (T.ob (false = false)
                              (T.leaf
                                (Ex.ret,
                                  anys 6 ++
                                    AV.bx (Tag.own 48) [AV.f FloatKind.f32 0, AV.f FloatKind.f32 0, AV.sl Tag.nil 0 (Cont.f FloatKind.f32 []), AV.i IntKind.i64 0] ::
                                      AV.sl Tag.nil 0 (Cont.f FloatKind.f32 []) :: AV.sl Tag.nil 0 (Cont.f FloatKind.f32 []) :: AV.b false :: anys 63)))
                            (T.ob (List.length guesses + List.length [guessM now0 now1 now2 now3 d] ≤ 4294967296)
                              (T.ob (List.length misses + List.length [ssE now0 now1 now2 now3 d (List.getD list (Int.toNat i) 0)] ≤ 4294967296)
                                (T.ob (false = false)
                                  (T.leaf
                                    (Ex.normal,
                                      AV.sl (Tag.par [0]) 0 (Cont.f FloatKind.f32 list) ::
                                        AV.any ::
                                          AV.bx (Tag.par [2]) [AV.f FloatKind.f32 a, AV.f FloatKind.f32 b, AV.f FloatKind.f32 c, AV.f FloatKind.f32 d] ::
                                            AV.any ::
                                              AV.any ::
                                                AV.any ::
                                                  AV.bx (Tag.own 48) [AV.f FloatKind.f32 v60, AV.f FloatKind.f32 v61, AV.sl Tag.imm 0 (Cont.f FloatKind.f32 v62), AV.i IntKind.i64 v63] ::
                                                    AV.any ::
                                                      AV.any ::
                                                        AV.any ::
                                                          AV.bx (Tag.own 80)
                                                              [AV.f FloatKind.f32 (ssL now0 now1 now2 now3 a b c d (List.getD list (Int.toNat i) 0)),
                                                                AV.f FloatKind.f32 (ssS now0 now1 now2 now3 a b c d (List.getD list (Int.toNat i) 0)),
                                                                AV.sl (Tag.own 360) 0 (Cont.f FloatKind.f32 (ssX now0 now1 now2 now3 a b c d (List.getD list (Int.toNat i) 0))), AV.i IntKind.i64 (ssT now2 now3)] ::
                                                            AV.sl (Tag.own 232) 0 (Cont.f FloatKind.f32 (guesses ++ [guessM now0 now1 now2 now3 d])) ::
                                                              AV.sl (Tag.own 240) 0 (Cont.f FloatKind.f32 (misses ++ [ssE now0 now1 now2 now3 d (List.getD list (Int.toNat i) 0)])) ::
                                                                AV.i IntKind.i64 (IntKind.wrap IntKind.i64 (i + 1)) :: anys 59)))))))))))))))
        (T.leaf (Ex.exit 0, h_spec_l04Run_L0 list l s xs t a b c d v60 v61 v62 v63 now0 now1 now2 now3 guesses misses i)))) :
    Exec VC ps_spec_l04Run (b_spec_l04Run_L0 g_spec_l04Can g_spec_l02Series g_spec_l04Own g_spec_l04Guess g_spec_l04Step g_spec_l01Finite g_spec_l04Is) (h_spec_l04Run_L0 list l s xs t a b c d v60 v61 v62 v63 now0 now1 now2 now3 guesses misses i) e_ σ_ := evL_of (lv := lv_spec_l04Run_L0) (rs := [6, 7, 8, 9]) (O := ⟨oc_spec_l04Run list l s xs t a b c d, fun _ _ => none⟩) (by kernel_rfl) ht

theorem q_spec_l04Run {P : Program} {g_f : FuncId} {g_spec_l04Can g_spec_l02Series g_spec_l04Own g_spec_l04Guess g_spec_l04Step g_spec_l01Finite g_spec_l04Is : FuncId} (h_ : Is_spec_l04Run P g_f g_spec_l04Can g_spec_l02Series g_spec_l04Own g_spec_l04Guess g_spec_l04Step g_spec_l01Finite g_spec_l04Is) (list : List Nat) (l : Nat) (s : Nat) (xs : List Nat) (t : Int) (a : Nat) (b : Nat) (c : Nat) (d : Nat) (ht : T.ok (fun x_ => x_ = .tup [.agg (ST (.own 0) (iv (runOk a b c d list ⟨l, s, xs, t⟩) (runZ a b c d list ⟨l, s, xs, t⟩).l) (iv (runOk a b c d list ⟨l, s, xs, t⟩) (runZ a b c d list ⟨l, s, xs, t⟩).s) (ivl (runOk a b c d list ⟨l, s, xs, t⟩) (runZ a b c d list ⟨l, s, xs, t⟩).xs) (ivi (runOk a b c d list ⟨l, s, xs, t⟩) (runZ a b c d list ⟨l, s, xs, t⟩).t)), OS 1 .f32 (ivl (runOk a b c d list ⟨l, s, xs, t⟩) (runG a b c d list ⟨l, s, xs, t⟩)), OS 2 .f32 (ivl (runOk a b c d list ⟨l, s, xs, t⟩) (runMs a b c d list ⟨l, s, xs, t⟩)), .b (runOk a b c d list ⟨l, s, xs, t⟩)]) (
      T.ob
        ((VCall P) g_spec_l04Can
          [AV.bx (Tag.par [0]) [AV.f FloatKind.f32 l, AV.f FloatKind.f32 s, AV.sl (Tag.par [0, 2]) 0 (Cont.f FloatKind.f32 xs), AV.i IntKind.i64 t],
            AV.bx (Tag.par [1]) [AV.f FloatKind.f32 a, AV.f FloatKind.f32 b, AV.f FloatKind.f32 c, AV.f FloatKind.f32 d]]
          (AV.b (validStateM l s xs t && sharesM a b c d)))
        (T.ite (!(validStateM l s xs t && sharesM a b c d))
          (T.ob (false = false)
            (T.leaf
              (AV.tup
                [AV.agg [AV.f FloatKind.f32 0, AV.f FloatKind.f32 0, AV.sl (Tag.own 0) 0 (Cont.f FloatKind.f32 []), AV.i IntKind.i64 0], AV.sl (Tag.own 1) 0 (Cont.f FloatKind.f32 []),
                  AV.sl (Tag.own 2) 0 (Cont.f FloatKind.f32 []), AV.b false])))
          (T.ob ((VCall P) g_spec_l02Series [AV.sl (Tag.par [0]) 0 (Cont.f FloatKind.f32 list)] (AV.b (seriesM list)))
            (T.ite (!seriesM list)
              (T.ob (false = false)
                (T.leaf
                  (AV.tup
                    [AV.agg [AV.f FloatKind.f32 0, AV.f FloatKind.f32 0, AV.sl (Tag.own 0) 0 (Cont.f FloatKind.f32 []), AV.i IntKind.i64 0], AV.sl (Tag.own 1) 0 (Cont.f FloatKind.f32 []),
                      AV.sl (Tag.own 2) 0 (Cont.f FloatKind.f32 []), AV.b false])))
              (T.ob
                ((VCall P) g_spec_l04Own [AV.bx (Tag.par [0]) [AV.f FloatKind.f32 l, AV.f FloatKind.f32 s, AV.sl (Tag.par [0, 2]) 0 (Cont.f FloatKind.f32 xs), AV.i IntKind.i64 t]]
                  (AV.agg [AV.f FloatKind.f32 l, AV.f FloatKind.f32 s, AV.sl (Tag.own 0) 0 (Cont.f FloatKind.f32 xs), AV.i IntKind.i64 t]))
                (T.ob (false = false)
                  (T.ite (runFin a b c d list { l := l, s := s, xs := xs, t := t })
                    (T.ob
                      (Exec (VCall P) ps_spec_l04Run (VCode.block 0 (VCode.loop (b_spec_l04Run_L0 g_spec_l04Can g_spec_l02Series g_spec_l04Own g_spec_l04Guess g_spec_l04Step g_spec_l01Finite g_spec_l04Is)))
                        (h_spec_l04Run_L0 list l s xs t a b c d 0 0 [] 0 l s xs t [] [] 0) Ex.normal
                        (h_spec_l04Run_L0 list l s xs t a b c d 0 0 [] 0 (SSt.l (runZ a b c d list { l := l, s := s, xs := xs, t := t })) (SSt.s (runZ a b c d list { l := l, s := s, xs := xs, t := t }))
                          (SSt.xs (runZ a b c d list { l := l, s := s, xs := xs, t := t })) (SSt.t (runZ a b c d list { l := l, s := s, xs := xs, t := t })) (runG a b c d list { l := l, s := s, xs := xs, t := t })
                          (runMs a b c d list { l := l, s := s, xs := xs, t := t }) (↑(List.length list) : Int)))
                      (T.ob (false = false)
                        (T.leaf
                          (AV.tup
                            [AV.agg
                                [AV.f FloatKind.f32 (SSt.l (runZ a b c d list { l := l, s := s, xs := xs, t := t })), AV.f FloatKind.f32 (SSt.s (runZ a b c d list { l := l, s := s, xs := xs, t := t })),
                                  AV.sl (Tag.own 0) 0 (Cont.f FloatKind.f32 (SSt.xs (runZ a b c d list { l := l, s := s, xs := xs, t := t }))),
                                  AV.i IntKind.i64 (SSt.t (runZ a b c d list { l := l, s := s, xs := xs, t := t }))],
                              AV.sl (Tag.own 1) 0 (Cont.f FloatKind.f32 (runG a b c d list { l := l, s := s, xs := xs, t := t })),
                              AV.sl (Tag.own 2) 0 (Cont.f FloatKind.f32 (runMs a b c d list { l := l, s := s, xs := xs, t := t })), AV.b true]))))
                    (T.ob
                      (Exec (VCall P) ps_spec_l04Run (VCode.block 0 (VCode.loop (b_spec_l04Run_L0 g_spec_l04Can g_spec_l02Series g_spec_l04Own g_spec_l04Guess g_spec_l04Step g_spec_l01Finite g_spec_l04Is)))
                        (h_spec_l04Run_L0 list l s xs t a b c d 0 0 [] 0 l s xs t [] [] 0) Ex.ret
                        (anys 6 ++
                          AV.bx (Tag.own 48) [AV.f FloatKind.f32 0, AV.f FloatKind.f32 0, AV.sl Tag.nil 0 (Cont.f FloatKind.f32 []), AV.i IntKind.i64 0] ::
                            AV.sl Tag.nil 0 (Cont.f FloatKind.f32 []) :: AV.sl Tag.nil 0 (Cont.f FloatKind.f32 []) :: AV.b false :: anys 63))
                      (T.leaf
                        (AV.tup
                          [AV.agg [AV.f FloatKind.f32 0, AV.f FloatKind.f32 0, AV.sl (Tag.own 0) 0 (Cont.f FloatKind.f32 []), AV.i IntKind.i64 0], AV.sl (Tag.own 1) 0 (Cont.f FloatKind.f32 []),
                            AV.sl (Tag.own 2) 0 (Cont.f FloatKind.f32 []), AV.b false]))))))))))) :
    VCall P g_f [PS [0] .f32 list, .bx (.par [1]) (ST (.par [1, 2]) l s xs t), .bx (.par [2]) (F4 a b c d)] (.tup [.agg (ST (.own 0) (iv (runOk a b c d list ⟨l, s, xs, t⟩) (runZ a b c d list ⟨l, s, xs, t⟩).l) (iv (runOk a b c d list ⟨l, s, xs, t⟩) (runZ a b c d list ⟨l, s, xs, t⟩).s) (ivl (runOk a b c d list ⟨l, s, xs, t⟩) (runZ a b c d list ⟨l, s, xs, t⟩).xs) (ivi (runOk a b c d list ⟨l, s, xs, t⟩) (runZ a b c d list ⟨l, s, xs, t⟩).t)), OS 1 .f32 (ivl (runOk a b c d list ⟨l, s, xs, t⟩) (runG a b c d list ⟨l, s, xs, t⟩)), OS 2 .f32 (ivl (runOk a b c d list ⟨l, s, xs, t⟩) (runMs a b c d list ⟨l, s, xs, t⟩)), .b (runOk a b c d list ⟨l, s, xs, t⟩)]) := h_.call_of ps_spec_l04Run ⟨oc_spec_l04Run list l s xs t a b c d, fun id σ => match id with | 0 => some (lv_spec_l04Run_L0, .ite (runFin a b c d list ⟨l, s, xs, t⟩) (.leaf (.normal, h_spec_l04Run_L0 list l s xs t a b c d 0 0 [] 0 (runZ a b c d list ⟨l, s, xs, t⟩).l (runZ a b c d list ⟨l, s, xs, t⟩).s (runZ a b c d list ⟨l, s, xs, t⟩).xs (runZ a b c d list ⟨l, s, xs, t⟩).t (runG a b c d list ⟨l, s, xs, t⟩) (runMs a b c d list ⟨l, s, xs, t⟩) list.length)) (.leaf (.ret, anys 6 ++ .bx (.own 48) [.f .f32 0, .f .f32 0, .sl .nil 0 (.f .f32 []), .i .i64 0] :: .sl .nil 0 (.f .f32 []) :: .sl .nil 0 (.f .f32 []) :: .b false :: anys 63))) | _ => none⟩ (by kernel_rfl) ht

-- END spec_l04Run

-- FN impl_GuessesOf
/-- impl.GuessesOf: slots 23, results [.t 6, .t 7]; calls [16:g_impl_run]; names [(list, 0), (s, 1), (h, 2), (list, 3), (s, 4), (h, 5), (_, 8), (out, 9), (_, 10), (ok, 11)] -/
def ps_impl_GuessesOf : List Nat := [0, 1, 2, 4, 5, 6, 7, 9, 11]
def b_impl_GuessesOf (g_impl_run : FuncId) : VCode :=
  (.seq
   (.region false [
    ⟨some 4, .boxN, [.t 1], none⟩,
    ⟨some 5, .boxN, [.t 2], none⟩,
    ⟨some 6, (.nilsl (.f .f32 [])), [], none⟩,
    ⟨some 7, .mv, [.k (.b false)], none⟩])
   (.seq
    (.region false [
     ⟨some 13, .mv, [.t 0], none⟩,
     ⟨some 14, (.loadN 4), [.t 4], none⟩,
     ⟨some 15, (.loadN 4), [.t 5], none⟩,
     ⟨some 16, (.call g_impl_run), [.t 13, .t 14, .t 15], none⟩,
     ⟨some 12, .mv, [.t 16], none⟩,
     ⟨some 17, (.extract 0), [.t 12], none⟩,
     ⟨some 18, (.extract 1), [.t 12], none⟩,
     ⟨some 19, (.extract 2), [.t 12], none⟩,
     ⟨some 20, (.extract 3), [.t 12], none⟩,
     ⟨some 8, (.alloc [(.f .f32 0), (.f .f32 0), (.sl .imm 0 (.f .f32 [])), (.i .i64 0)]), [], none⟩,
     ⟨none, (.storeN 4), [.t 8, .t 17], none⟩,
     ⟨some 9, .mv, [.t 18], none⟩,
     ⟨some 10, .mv, [.t 19], none⟩,
     ⟨some 11, .mv, [.t 20], none⟩])
    (.seq
     (.region false [
      ⟨some 21, .mv, [.t 9], none⟩,
      ⟨some 22, .mv, [.t 11], none⟩,
      ⟨some 6, .mv, [.t 21], none⟩,
      ⟨some 7, .mv, [.t 22], none⟩])
     .ret)))

abbrev Is_impl_GuessesOf (P : Program) (g_f : FuncId) (g_impl_run : FuncId) : Prop := FnIs P g_f 23 [.t 6, .t 7] (b_impl_GuessesOf g_impl_run)

abbrev C_impl_GuessesOf (P : Program) (g_f : FuncId) : Prop := ∀ (list : List Nat) (l : Nat) (s : Nat) (xs : List Nat) (t : Int) (a : Nat) (b : Nat) (c : Nat) (d : Nat) (hl : list.length ≤ maxLen) (hx : xs.length ≤ maxLen), VCall P g_f [PS [0] .f32 list, .agg (ST (.par [1, 2]) l s xs t), .agg (F4 a b c d)] (.tup [OS 0 .f32 (ivl (runOk a b c d list ⟨l, s, xs, t⟩) (runG a b c d list ⟨l, s, xs, t⟩)), .b (runOk a b c d list ⟨l, s, xs, t⟩)])
def oc1_impl_GuessesOf (as : List AV) : T AV := match as with | [.sl _ _ (.f .f32 list), .agg [.f _ l, .f _ s, .sl _ _ (.f _ xs), .i _ t], .agg [.f _ a, .f _ b, .f _ c, .f _ d]] => .leaf (.tup [OS 0 .f32 (ivl (runOk a b c d list ⟨l, s, xs, t⟩) (runG a b c d list ⟨l, s, xs, t⟩)), .b (runOk a b c d list ⟨l, s, xs, t⟩)]) | _ => .fail
def oc_impl_GuessesOf (list : List Nat) (l : Nat) (s : Nat) (xs : List Nat) (t : Int) (a : Nat) (b : Nat) (c : Nat) (d : Nat) (d : Nat) (as : List AV) : T AV := match d with | 16 => oc1_impl_run as | _ => .fail



theorem q_impl_GuessesOf {P : Program} {g_f : FuncId} {g_impl_run : FuncId} (h_ : Is_impl_GuessesOf P g_f g_impl_run) (list : List Nat) (l : Nat) (s : Nat) (xs : List Nat) (t : Int) (a : Nat) (b : Nat) (c : Nat) (d : Nat) (ht : T.ok (fun x_ => x_ = .tup [OS 0 .f32 (ivl (runOk a b c d list ⟨l, s, xs, t⟩) (runG a b c d list ⟨l, s, xs, t⟩)), .b (runOk a b c d list ⟨l, s, xs, t⟩)]) (
      T.ob (false = false)
        (T.ob (false = false)
          (T.ob
            ((VCall P) g_impl_run
              [AV.sl (Tag.par [0]) 0 (Cont.f FloatKind.f32 list), AV.agg [AV.f FloatKind.f32 l, AV.f FloatKind.f32 s, AV.sl (Tag.par [1, 2]) 0 (Cont.f FloatKind.f32 xs), AV.i IntKind.i64 t],
                AV.agg [AV.f FloatKind.f32 a, AV.f FloatKind.f32 b, AV.f FloatKind.f32 c, AV.f FloatKind.f32 d]]
              (AV.tup
                [AV.agg
                    [AV.f FloatKind.f32 (iv (runOk a b c d list { l := l, s := s, xs := xs, t := t }) (SSt.l (runZ a b c d list { l := l, s := s, xs := xs, t := t }))),
                      AV.f FloatKind.f32 (iv (runOk a b c d list { l := l, s := s, xs := xs, t := t }) (SSt.s (runZ a b c d list { l := l, s := s, xs := xs, t := t }))),
                      AV.sl (Tag.own 0) 0 (Cont.f FloatKind.f32 (ivl (runOk a b c d list { l := l, s := s, xs := xs, t := t }) (SSt.xs (runZ a b c d list { l := l, s := s, xs := xs, t := t })))),
                      AV.i IntKind.i64 (ivi (runOk a b c d list { l := l, s := s, xs := xs, t := t }) (SSt.t (runZ a b c d list { l := l, s := s, xs := xs, t := t })))],
                  AV.sl (Tag.own 1) 0 (Cont.f FloatKind.f32 (ivl (runOk a b c d list { l := l, s := s, xs := xs, t := t }) (runG a b c d list { l := l, s := s, xs := xs, t := t }))),
                  AV.sl (Tag.own 2) 0 (Cont.f FloatKind.f32 (ivl (runOk a b c d list { l := l, s := s, xs := xs, t := t }) (runMs a b c d list { l := l, s := s, xs := xs, t := t }))),
                  AV.b (runOk a b c d list { l := l, s := s, xs := xs, t := t })]))
            (T.ob (false = false)
              (T.leaf
                (AV.tup
                  [AV.sl (Tag.own 0) 0 (Cont.f FloatKind.f32 (ivl (runOk a b c d list { l := l, s := s, xs := xs, t := t }) (runG a b c d list { l := l, s := s, xs := xs, t := t }))),
                    AV.b (runOk a b c d list { l := l, s := s, xs := xs, t := t })]))))))) :
    VCall P g_f [PS [0] .f32 list, .agg (ST (.par [1, 2]) l s xs t), .agg (F4 a b c d)] (.tup [OS 0 .f32 (ivl (runOk a b c d list ⟨l, s, xs, t⟩) (runG a b c d list ⟨l, s, xs, t⟩)), .b (runOk a b c d list ⟨l, s, xs, t⟩)]) := h_.call_of ps_impl_GuessesOf ⟨oc_impl_GuessesOf list l s xs t a b c d, fun _ _ => none⟩ (by kernel_rfl) ht

-- END impl_GuessesOf

-- FN spec_GuessesOf
/-- spec.GuessesOf: slots 21, results [.t 6, .t 7]; calls [14:g_spec_l04Run]; names [(list, 0), (s, 1), (h, 2), (list, 3), (s, 4), (h, 5), (_, 8), (out, 9), (_, 10), (ok, 11)] -/
def ps_spec_GuessesOf : List Nat := [0, 1, 2, 4, 5, 6, 7, 9, 11]
def b_spec_GuessesOf (g_spec_l04Run : FuncId) : VCode :=
  (.seq
   (.region false [
    ⟨some 4, .boxN, [.t 1], none⟩,
    ⟨some 5, .boxN, [.t 2], none⟩,
    ⟨some 6, (.nilsl (.f .f32 [])), [], none⟩,
    ⟨some 7, .mv, [.k (.b false)], none⟩])
   (.seq
    (.region false [
     ⟨some 13, .mv, [.t 0], none⟩,
     ⟨some 14, (.call g_spec_l04Run), [.t 13, .t 4, .t 5], none⟩,
     ⟨some 12, .mv, [.t 14], none⟩,
     ⟨some 15, (.extract 0), [.t 12], none⟩,
     ⟨some 16, (.extract 1), [.t 12], none⟩,
     ⟨some 17, (.extract 2), [.t 12], none⟩,
     ⟨some 18, (.extract 3), [.t 12], none⟩,
     ⟨some 8, (.alloc [(.f .f32 0), (.f .f32 0), (.sl .imm 0 (.f .f32 [])), (.i .i64 0)]), [], none⟩,
     ⟨none, (.storeN 4), [.t 8, .t 15], none⟩,
     ⟨some 9, .mv, [.t 16], none⟩,
     ⟨some 10, .mv, [.t 17], none⟩,
     ⟨some 11, .mv, [.t 18], none⟩])
    (.seq
     (.region false [
      ⟨some 19, .mv, [.t 9], none⟩,
      ⟨some 20, .mv, [.t 11], none⟩,
      ⟨some 6, .mv, [.t 19], none⟩,
      ⟨some 7, .mv, [.t 20], none⟩])
     .ret)))

abbrev Is_spec_GuessesOf (P : Program) (g_f : FuncId) (g_spec_l04Run : FuncId) : Prop := FnIs P g_f 21 [.t 6, .t 7] (b_spec_GuessesOf g_spec_l04Run)

abbrev C_spec_GuessesOf (P : Program) (g_f : FuncId) : Prop := ∀ (list : List Nat) (l : Nat) (s : Nat) (xs : List Nat) (t : Int) (a : Nat) (b : Nat) (c : Nat) (d : Nat) (hl : list.length ≤ maxLen) (hx : xs.length ≤ maxLen), VCall P g_f [PS [0] .f32 list, .agg (ST (.par [1, 2]) l s xs t), .agg (F4 a b c d)] (.tup [OS 0 .f32 (ivl (runOk a b c d list ⟨l, s, xs, t⟩) (runG a b c d list ⟨l, s, xs, t⟩)), .b (runOk a b c d list ⟨l, s, xs, t⟩)])
def oc1_spec_GuessesOf (as : List AV) : T AV := match as with | [.sl _ _ (.f .f32 list), .agg [.f _ l, .f _ s, .sl _ _ (.f _ xs), .i _ t], .agg [.f _ a, .f _ b, .f _ c, .f _ d]] => .leaf (.tup [OS 0 .f32 (ivl (runOk a b c d list ⟨l, s, xs, t⟩) (runG a b c d list ⟨l, s, xs, t⟩)), .b (runOk a b c d list ⟨l, s, xs, t⟩)]) | _ => .fail
def oc_spec_GuessesOf (list : List Nat) (l : Nat) (s : Nat) (xs : List Nat) (t : Int) (a : Nat) (b : Nat) (c : Nat) (d : Nat) (d : Nat) (as : List AV) : T AV := match d with | 14 => oc1_spec_l04Run as | _ => .fail



theorem q_spec_GuessesOf {P : Program} {g_f : FuncId} {g_spec_l04Run : FuncId} (h_ : Is_spec_GuessesOf P g_f g_spec_l04Run) (list : List Nat) (l : Nat) (s : Nat) (xs : List Nat) (t : Int) (a : Nat) (b : Nat) (c : Nat) (d : Nat) (ht : T.ok (fun x_ => x_ = .tup [OS 0 .f32 (ivl (runOk a b c d list ⟨l, s, xs, t⟩) (runG a b c d list ⟨l, s, xs, t⟩)), .b (runOk a b c d list ⟨l, s, xs, t⟩)]) (
      T.ob (false = false)
        (T.ob (false = false)
          (T.ob
            ((VCall P) g_spec_l04Run
              [AV.sl (Tag.par [0]) 0 (Cont.f FloatKind.f32 list), AV.bx (Tag.par [1]) [AV.f FloatKind.f32 l, AV.f FloatKind.f32 s, AV.sl (Tag.par [1, 2]) 0 (Cont.f FloatKind.f32 xs), AV.i IntKind.i64 t],
                AV.bx (Tag.par [2]) [AV.f FloatKind.f32 a, AV.f FloatKind.f32 b, AV.f FloatKind.f32 c, AV.f FloatKind.f32 d]]
              (AV.tup
                [AV.agg
                    [AV.f FloatKind.f32 (iv (runOk a b c d list { l := l, s := s, xs := xs, t := t }) (SSt.l (runZ a b c d list { l := l, s := s, xs := xs, t := t }))),
                      AV.f FloatKind.f32 (iv (runOk a b c d list { l := l, s := s, xs := xs, t := t }) (SSt.s (runZ a b c d list { l := l, s := s, xs := xs, t := t }))),
                      AV.sl (Tag.own 0) 0 (Cont.f FloatKind.f32 (ivl (runOk a b c d list { l := l, s := s, xs := xs, t := t }) (SSt.xs (runZ a b c d list { l := l, s := s, xs := xs, t := t })))),
                      AV.i IntKind.i64 (ivi (runOk a b c d list { l := l, s := s, xs := xs, t := t }) (SSt.t (runZ a b c d list { l := l, s := s, xs := xs, t := t })))],
                  AV.sl (Tag.own 1) 0 (Cont.f FloatKind.f32 (ivl (runOk a b c d list { l := l, s := s, xs := xs, t := t }) (runG a b c d list { l := l, s := s, xs := xs, t := t }))),
                  AV.sl (Tag.own 2) 0 (Cont.f FloatKind.f32 (ivl (runOk a b c d list { l := l, s := s, xs := xs, t := t }) (runMs a b c d list { l := l, s := s, xs := xs, t := t }))),
                  AV.b (runOk a b c d list { l := l, s := s, xs := xs, t := t })]))
            (T.ob (false = false)
              (T.leaf
                (AV.tup
                  [AV.sl (Tag.own 0) 0 (Cont.f FloatKind.f32 (ivl (runOk a b c d list { l := l, s := s, xs := xs, t := t }) (runG a b c d list { l := l, s := s, xs := xs, t := t }))),
                    AV.b (runOk a b c d list { l := l, s := s, xs := xs, t := t })]))))))) :
    VCall P g_f [PS [0] .f32 list, .agg (ST (.par [1, 2]) l s xs t), .agg (F4 a b c d)] (.tup [OS 0 .f32 (ivl (runOk a b c d list ⟨l, s, xs, t⟩) (runG a b c d list ⟨l, s, xs, t⟩)), .b (runOk a b c d list ⟨l, s, xs, t⟩)]) := h_.call_of ps_spec_GuessesOf ⟨oc_spec_GuessesOf list l s xs t a b c d, fun _ _ => none⟩ (by kernel_rfl) ht

-- END spec_GuessesOf


/-- all go on; what went before is known -/
theorem for_allS {VC : FuncId → List AV → AV → Prop} {ps : List Nat} {id : Nat} {b : VCode} {e e' : Ex} {σ0 σ1 : Env} (c : Nat → Bool) (m : Nat) (st : Nat → Env) (ha : allN m c = true) (h0 : σ0 = st 0)
    (h : ∀ i, i < m → (∀ j, j < i → c j = true) → c i = true → Exec VC ps b (st i) .normal (st (i + 1))) (he : Exec VC ps b (st m) e σ1) (hne : e ≠ .normal := by simp) (hx : e.inBlock id = e' := by rfl) : Exec VC ps (.block id (.loop b)) σ0 e' σ1 :=
  for_up m st h0 (fun i hi => h i hi (fun j hj => allN_iff.1 ha j (by omega)) (allN_iff.1 ha i hi)) he hne hx
theorem for_oneS {VC : FuncId → List AV → AV → Prop} {ps : List Nat} {id : Nat} {b : VCode} {e e' : Ex} {σ0 σ1 : Env} (c : Nat → Bool) (m : Nat) (st : Nat → Env) (ha : allN m c = false) (h0 : σ0 = st 0)
    (h : ∀ i, i < m → (∀ j, j < i → c j = true) → c i = true → Exec VC ps b (st i) .normal (st (i + 1))) (he : ∀ i, i < m → (∀ j, j < i → c j = true) → c i = false → Exec VC ps b (st i) e σ1) (hne : e ≠ .normal := by simp) (hx : e.inBlock id = e' := by rfl) : Exec VC ps (.block id (.loop b)) σ0 e' σ1 := by
  obtain ⟨i, hi, h2, h3⟩ := allN_not ha
  exact for_up i st h0 (fun j hj => h j (by omega) (fun k hk => h3 k (by omega)) (h3 j hj)) (he i hi h3 h2) hne hx
theorem run_inv {a b c d : Nat} {list : List Nat} {q : SSt} (h : (0 ≤ q.t ∧ q.t < q.xs.length) ∧ q.xs.length ≤ 24) : ∀ k, (0 ≤ (runS a b c d list q k).t ∧ (runS a b c d list q k).t < (runS a b c d list q k).xs.length) ∧ (runS a b c d list q k).xs.length ≤ 24
  | 0 => h
  | k + 1 => by
    obtain ⟨⟨h1, h2⟩, h3⟩ := run_inv (a := a) (b := b) (c := c) (d := d) (list := list) h k
    have el : (runS a b c d list q (k + 1)).xs.length = (runS a b c d list q k).xs.length := ss_len _ _ _ _ a b c d (list.getD k 0)
    have et : (runS a b c d list q (k + 1)).t = Int.tmod (IntKind.wrap .i64 ((runS a b c d list q k).t + 1)) (runS a b c d list q k).xs.length := rfl
    rw [el, et, wrap64_id (by omega) (by omega), Int.tmod_eq_emod_of_nonneg (by omega)]
    refine ⟨⟨Int.emod_nonneg _ (by omega), Int.emod_lt_of_pos _ (by omega)⟩, h3⟩
theorem run_cur {a b c d : Nat} {list : List Nat} {q : SSt} (h : validStateM q.l q.s q.xs q.t = true) : ∀ k, (∀ j, j < k → okN a b c d list q j = true) → validStateM (runS a b c d list q k).l (runS a b c d list q k).s (runS a b c d list q k).xs (runS a b c d list q k).t = true
  | 0, _ => h
  | k + 1, hp => by
    have := hp k (by omega)
    unfold okN at this
    exact ((Bool.and_eq_true _ _).mp this).1
theorem run_ok {a b c d : Nat} {list : List Nat} {q : SSt} {k : Nat} (h : validStateM (runS a b c d list q k).l (runS a b c d list q k).s (runS a b c d list q k).xs (runS a b c d list q k).t = true) (h2 : sharesM a b c d = true) (h3 : finM (list.getD k 0) = true) :
    ssOk (runS a b c d list q k).l (runS a b c d list q k).s (runS a b c d list q k).xs (runS a b c d list q k).t a b c d (list.getD k 0) = okN a b c d list q k := by
  unfold ssOk
  rw [h, h2, h3]
  rfl
section
variable {P : Program}
theorem k_impl_run {f g1 g2 g3 g4 g5 g6 : FuncId} (h : Is_impl_run P f g1 g2 g3 g4 g5 g6) (c1 : C_impl_IsSeries P g1) (c2 : C_impl_ValidState P g2) (c3 : C_impl_ValidShares P g3) (c4 : C_slices_Clone___float32_float32_ P g4) (c5 : C_impl_StepState P g5) (c6 : C_impl_State__guess P g6) : C_impl_run P f := by
  intro list l s xs t a b c d hl hx
  refine q_impl_run h list l s xs t a b c d ?_
  have a1 := c1 list hl
  have a2 := c2 l s xs t hx
  have a3 := c3 a b c d
  cases hs : seriesM list
  · have ho : runOk a b c d list ⟨l, s, xs, t⟩ = false := by simp [runOk, hs]
    rw [hs] at a1
    rw [ho]
    repeat' (first | with_reducible refine T.ok_ob ?_ (fun _ => ?_) | with_reducible refine T.ok_ite (fun _ => ?_) (fun _ => ?_) | with_reducible refine T.ok_leaf ?_)
    all_goals first | exact a1 | contradiction | trivial | rfl
  cases hv : validStateM l s xs t
  · have ho : runOk a b c d list ⟨l, s, xs, t⟩ = false := by simp [runOk, hs, hv]
    rw [hs] at a1
    rw [hv] at a2
    rw [ho]
    repeat' (first | with_reducible refine T.ok_ob ?_ (fun _ => ?_) | with_reducible refine T.ok_ite (fun _ => ?_) (fun _ => ?_) | with_reducible refine T.ok_leaf ?_)
    all_goals first | exact a1 | exact a2 | contradiction | trivial | rfl
  cases hh : sharesM a b c d
  · have ho : runOk a b c d list ⟨l, s, xs, t⟩ = false := by simp [runOk, hs, hv, hh]
    rw [hs] at a1
    rw [hv] at a2
    rw [hh] at a3
    rw [ho]
    repeat' (first | with_reducible refine T.ok_ob ?_ (fun _ => ?_) | with_reducible refine T.ok_ite (fun _ => ?_) (fun _ => ?_) | with_reducible refine T.ok_leaf ?_)
    all_goals first | exact a1 | exact a2 | exact a3 | contradiction | trivial | rfl
  rw [hs] at a1
  rw [hv] at a2
  rw [hh] at a3
  have hsl := series_len hs
  have h0 := valid_t hv
  generalize hq : (⟨l, s, xs, t⟩ : SSt) = q
  have inv := run_inv (a := a) (b := b) (c := c) (d := d) (list := list) (q := q) (by rw [← hq]; exact h0)
  have cur := run_cur (a := a) (b := b) (c := c) (d := d) (list := list) (q := q) (by rw [← hq]; exact hv)
  let st : Nat → Env := fun k => h_impl_run_L0 list l s xs t a b c d (runS a b c d list q k).l (runS a b c d list q k).s (runS a b c d list q k).xs (runS a b c d list q k).t a b c d 0 0 [] 0 (tab k (gssN a b c d list q)) (tab k (misN a b c d list q)) k
  have rd : ∀ i, i < list.length → (∀ j, j < i → okN a b c d list q j = true) → okN a b c d list q i = true → Exec (VCall P) ps_impl_run (b_impl_run_L0 g1 g2 g3 g4 g5 g6) (st i) .normal (st (i + 1)) := by
    intro i hi hp hc
    have hok := run_ok (cur i hp) hh (series_fin hs hi)
    rw [hc] at hok
    obtain ⟨it, il⟩ := inv i
    have key : Exec (VCall P) ps_impl_run (b_impl_run_L0 g1 g2 g3 g4 g5 g6) (st i) .normal (Env.rnm 376 264 (st (i + 1))) := by
      refine q_impl_run_L0 _ _ _ _ _ _ _ _ _ _ _ _ _ _ _ _ _ _ _ _ _ _ _ _ ?_
      have b5 := c5 (runS a b c d list q i).l (runS a b c d list q i).s (runS a b c d list q i).xs (runS a b c d list q i).t a b c d (list.getD i 0) (by rw [maxLen_eq]; omega)
      have b6 := c6 (runS a b c d list q i).l (runS a b c d list q i).s (runS a b c d list q i).xs (runS a b c d list q i).t a b c d it
      have e1 : IntKind.wrap .i64 ((i : Int) + 1) = (i + 1 : Nat) := by rw [wrap64_id (by omega) (by omega)]; omega
      have t1 := tab_len i (gssN a b c d list q)
      have t2 := tab_len i (misN a b c d list q)
      simp only [Int.toNat_natCast]
      rw [hok] at b5 ⊢
      rw [e1]
      repeat' (first | with_reducible refine T.ok_ob ?_ (fun _ => ?_) | with_reducible refine T.ok_ite (fun _ => ?_) (fun _ => ?_) | with_reducible refine T.ok_leaf ?_)
      all_goals first | exact b5 | exact b6 | trivial | omega | contradiction | (simp only [List.length_append, List.length_singleton]; omega) | (exfalso; simp only [decide_eq_false_iff_not] at *; omega) | skip
      all_goals (simp only [st]; rw [tab_succ, tab_succ]; rfl)
    exact Exec.renameR 376 264 (by decide) (by decide) key
  have rx : ∀ i, i < list.length → (∀ j, j < i → okN a b c d list q j = true) → okN a b c d list q i = false → Exec (VCall P) ps_impl_run (b_impl_run_L0 g1 g2 g3 g4 g5 g6) (st i) .ret (anys 6 ++ .bx (.own 48) [.f .f32 0, .f .f32 0, .sl .nil 0 (.f .f32 []), .i .i64 0] :: .sl .nil 0 (.f .f32 []) :: .sl .nil 0 (.f .f32 []) :: .b false :: anys 59) := by
    intro i hi hp hc
    have hok := run_ok (cur i hp) hh (series_fin hs hi)
    rw [hc] at hok
    obtain ⟨it, il⟩ := inv i
    refine q_impl_run_L0 _ _ _ _ _ _ _ _ _ _ _ _ _ _ _ _ _ _ _ _ _ _ _ _ ?_
    have b5 := c5 (runS a b c d list q i).l (runS a b c d list q i).s (runS a b c d list q i).xs (runS a b c d list q i).t a b c d (list.getD i 0) (by rw [maxLen_eq]; omega)
    simp only [Int.toNat_natCast]
    rw [hok] at b5 ⊢
    repeat' (first | with_reducible refine T.ok_ob ?_ (fun _ => ?_) | with_reducible refine T.ok_ite (fun _ => ?_) (fun _ => ?_) | with_reducible refine T.ok_leaf ?_)
    all_goals first | exact b5 | trivial | omega | contradiction | rfl | (exfalso; simp only [decide_eq_false_iff_not] at *; omega)
  have a4 := c4 xs (by omega) (by omega)
  cases hf : runFin a b c d list q
  · have ho : runOk a b c d list q = false := by unfold runOk; rw [hf, Bool.and_false]
    have main : Exec (VCall P) ps_impl_run (.block 0 (.loop (b_impl_run_L0 g1 g2 g3 g4 g5 g6))) (st 0) .ret _ := for_oneS (e := .ret) (okN a b c d list q) list.length st hf rfl rd rx
    subst hq
    rw [ho]
    repeat' (first | with_reducible refine T.ok_ob ?_ (fun _ => ?_) | with_reducible refine T.ok_ite (fun _ => ?_) (fun _ => ?_) | with_reducible refine T.ok_leaf ?_)
    all_goals first | exact a1 | exact a2 | exact a3 | exact a4 | exact main | contradiction | trivial | rfl
  · have ho : runOk a b c d list q = true := by rw [← hq] at hf ⊢; simp only [runOk, hf, hs, hv, hh]; rfl
    have main : Exec (VCall P) ps_impl_run (.block 0 (.loop (b_impl_run_L0 g1 g2 g3 g4 g5 g6))) (st 0) .normal (st list.length) := by
      refine for_allS (e := .exit 0) (okN a b c d list q) list.length st hf rfl rd ?_
      refine q_impl_run_L0 _ _ _ _ _ _ _ _ _ _ _ _ _ _ _ _ _ _ _ _ _ _ _ _ ?_
      repeat' (first | with_reducible refine T.ok_ob ?_ (fun _ => ?_) | with_reducible refine T.ok_ite (fun _ => ?_) (fun _ => ?_) | with_reducible refine T.ok_leaf ?_)
      all_goals first | rfl | (exfalso; simp only [decide_eq_true_eq] at *; omega)
    subst hq
    rw [ho]
    repeat' (first | with_reducible refine T.ok_ob ?_ (fun _ => ?_) | with_reducible refine T.ok_ite (fun _ => ?_) (fun _ => ?_) | with_reducible refine T.ok_leaf ?_)
    all_goals first | exact a1 | exact a2 | exact a3 | exact a4 | exact main | contradiction | trivial | rfl
theorem k_spec_l04Run {f g1 g2 g3 g4 g5 g6 g7 : FuncId} (h : Is_spec_l04Run P f g1 g2 g3 g4 g5 g6 g7) (c1 : C_spec_l04Can P g1) (c2 : C_spec_l02Series P g2) (c3 : C_spec_l04Own P g3) (c4 : C_spec_l04Guess P g4) (c5 : C_spec_l04Step P g5) (c6 : C_spec_l01Finite P g6) (c7 : C_spec_l04Is P g7) : C_spec_l04Run P f := by
  intro list l s xs t a b c d hl hx
  refine q_spec_l04Run h list l s xs t a b c d ?_
  have a1 := c1 l s xs t a b c d hx
  have a2 := c2 list hl
  cases hv : (validStateM l s xs t && sharesM a b c d)
  · have ho : runOk a b c d list ⟨l, s, xs, t⟩ = false := by simp only [runOk, hv, Bool.and_false, Bool.false_and]
    rw [hv] at a1
    rw [ho]
    repeat' (first | with_reducible refine T.ok_ob ?_ (fun _ => ?_) | with_reducible refine T.ok_ite (fun _ => ?_) (fun _ => ?_) | with_reducible refine T.ok_leaf ?_)
    all_goals first | exact a1 | contradiction | trivial | rfl
  cases hs : seriesM list
  · have ho : runOk a b c d list ⟨l, s, xs, t⟩ = false := by simp only [runOk, hs, Bool.false_and]
    rw [hs] at a2
    rw [hv] at a1
    rw [ho]
    repeat' (first | with_reducible refine T.ok_ob ?_ (fun _ => ?_) | with_reducible refine T.ok_ite (fun _ => ?_) (fun _ => ?_) | with_reducible refine T.ok_leaf ?_)
    all_goals first | exact a1 | exact a2 | contradiction | trivial | rfl
  rw [hv] at a1
  rw [hs] at a2
  have hv2 := (Bool.and_eq_true _ _).mp hv
  have hsl := series_len hs
  have h0 := valid_t hv2.1
  have a3 := c3 l s xs t (by omega)
  generalize hq : (⟨l, s, xs, t⟩ : SSt) = q
  have inv := run_inv (a := a) (b := b) (c := c) (d := d) (list := list) (q := q) (by rw [← hq]; exact h0)
  let st : Nat → Env := fun k => h_spec_l04Run_L0 list l s xs t a b c d 0 0 [] 0 (runS a b c d list q k).l (runS a b c d list q k).s (runS a b c d list q k).xs (runS a b c d list q k).t (tab k (gssN a b c d list q)) (tab k (misN a b c d list q)) k
  have rd : ∀ i, i < list.length → (∀ j, j < i → okN a b c d list q j = true) → okN a b c d list q i = true → Exec (VCall P) ps_spec_l04Run (b_spec_l04Run_L0 g1 g2 g3 g4 g5 g6 g7) (st i) .normal (st (i + 1)) := by
    intro i hi hp hc
    have hxi := series_fin hs hi
    obtain ⟨it, il⟩ := inv i
    have hc2 := (Bool.and_eq_true _ _).mp hc
    have hn : validStateM (ssL (runS a b c d list q i).l (runS a b c d list q i).s (runS a b c d list q i).xs (runS a b c d list q i).t a b c d (list.getD i 0)) (ssS (runS a b c d list q i).l (runS a b c d list q i).s (runS a b c d list q i).xs (runS a b c d list q i).t a b c d (list.getD i 0)) (ssX (runS a b c d list q i).l (runS a b c d list q i).s (runS a b c d list q i).xs (runS a b c d list q i).t a b c d (list.getD i 0)) (ssT (runS a b c d list q i).xs (runS a b c d list q i).t) = true := hc2.1
    have he : finM (ssE (runS a b c d list q i).l (runS a b c d list q i).s (runS a b c d list q i).xs (runS a b c d list q i).t d (list.getD i 0)) = true := hc2.2
    have hg : finM (guessM (runS a b c d list q i).l (runS a b c d list q i).s (runS a b c d list q i).xs (runS a b c d list q i).t d) = true := by
      cases hg : finM (guessM (runS a b c d list q i).l (runS a b c d list q i).s (runS a b c d list q i).xs (runS a b c d list q i).t d)
      · have := ss_bad hxi hg; rw [he] at this; cases this
      · rfl
    have key : Exec (VCall P) ps_spec_l04Run (b_spec_l04Run_L0 g1 g2 g3 g4 g5 g6 g7) (st i) .normal (Env.rnm 360 224 (st (i + 1))) := by
      refine q_spec_l04Run_L0 _ _ _ _ _ _ _ _ _ _ _ _ _ _ _ _ _ _ _ _ ?_
      have b4 := c4 (runS a b c d list q i).l (runS a b c d list q i).s (runS a b c d list q i).xs (runS a b c d list q i).t a b c d it
      have b5 := c5 (runS a b c d list q i).l (runS a b c d list q i).s (runS a b c d list q i).xs (runS a b c d list q i).t a b c d (list.getD i 0) it (by omega)
      have b6 := c6 (guessM (runS a b c d list q i).l (runS a b c d list q i).s (runS a b c d list q i).xs (runS a b c d list q i).t d)
      have b8 := c6 (ssE (runS a b c d list q i).l (runS a b c d list q i).s (runS a b c d list q i).xs (runS a b c d list q i).t d (list.getD i 0))
      have b7 := c7 (ssL (runS a b c d list q i).l (runS a b c d list q i).s (runS a b c d list q i).xs (runS a b c d list q i).t a b c d (list.getD i 0)) (ssS (runS a b c d list q i).l (runS a b c d list q i).s (runS a b c d list q i).xs (runS a b c d list q i).t a b c d (list.getD i 0)) (ssX (runS a b c d list q i).l (runS a b c d list q i).s (runS a b c d list q i).xs (runS a b c d list q i).t a b c d (list.getD i 0)) (ssT (runS a b c d list q i).xs (runS a b c d list q i).t) (by rw [ss_len, maxLen_eq]; omega)
      have e1 : IntKind.wrap .i64 ((i : Int) + 1) = (i + 1 : Nat) := by rw [wrap64_id (by omega) (by omega)]; omega
      have t1 := tab_len i (gssN a b c d list q)
      have t2 := tab_len i (misN a b c d list q)
      simp only [Int.toNat_natCast]
      rw [hg] at b6 ⊢
      rw [he] at b8 ⊢
      rw [hn] at b7 ⊢
      rw [e1]
      repeat' (first | with_reducible refine T.ok_ob ?_ (fun _ => ?_) | with_reducible refine T.ok_ite (fun _ => ?_) (fun _ => ?_) | with_reducible refine T.ok_leaf ?_)
      all_goals first | exact b4 | exact b5 | exact b6 | exact b7 | exact b8 | trivial | omega | contradiction | (simp only [List.length_append, List.length_singleton]; omega) | (exfalso; simp only [decide_eq_false_iff_not] at *; omega) | skip
      all_goals (simp only [st]; rw [tab_succ, tab_succ]; rfl)
    exact Exec.renameR 360 224 (by decide) (by decide) key
  have rx : ∀ i, i < list.length → (∀ j, j < i → okN a b c d list q j = true) → okN a b c d list q i = false → Exec (VCall P) ps_spec_l04Run (b_spec_l04Run_L0 g1 g2 g3 g4 g5 g6 g7) (st i) .ret (anys 6 ++ .bx (.own 48) [.f .f32 0, .f .f32 0, .sl .nil 0 (.f .f32 []), .i .i64 0] :: .sl .nil 0 (.f .f32 []) :: .sl .nil 0 (.f .f32 []) :: .b false :: anys 63) := by
    intro i hi hp hc
    have hxi := series_fin hs hi
    obtain ⟨it, il⟩ := inv i
    have hc2 : (validStateM (ssL (runS a b c d list q i).l (runS a b c d list q i).s (runS a b c d list q i).xs (runS a b c d list q i).t a b c d (list.getD i 0)) (ssS (runS a b c d list q i).l (runS a b c d list q i).s (runS a b c d list q i).xs (runS a b c d list q i).t a b c d (list.getD i 0)) (ssX (runS a b c d list q i).l (runS a b c d list q i).s (runS a b c d list q i).xs (runS a b c d list q i).t a b c d (list.getD i 0)) (ssT (runS a b c d list q i).xs (runS a b c d list q i).t) && finM (ssE (runS a b c d list q i).l (runS a b c d list q i).s (runS a b c d list q i).xs (runS a b c d list q i).t d (list.getD i 0))) = false := hc
    refine q_spec_l04Run_L0 _ _ _ _ _ _ _ _ _ _ _ _ _ _ _ _ _ _ _ _ ?_
    have b4 := c4 (runS a b c d list q i).l (runS a b c d list q i).s (runS a b c d list q i).xs (runS a b c d list q i).t a b c d it
    have b5 := c5 (runS a b c d list q i).l (runS a b c d list q i).s (runS a b c d list q i).xs (runS a b c d list q i).t a b c d (list.getD i 0) it (by omega)
    have b6 := c6 (guessM (runS a b c d list q i).l (runS a b c d list q i).s (runS a b c d list q i).xs (runS a b c d list q i).t d)
    have b8 := c6 (ssE (runS a b c d list q i).l (runS a b c d list q i).s (runS a b c d list q i).xs (runS a b c d list q i).t d (list.getD i 0))
    have b7 := c7 (ssL (runS a b c d list q i).l (runS a b c d list q i).s (runS a b c d list q i).xs (runS a b c d list q i).t a b c d (list.getD i 0)) (ssS (runS a b c d list q i).l (runS a b c d list q i).s (runS a b c d list q i).xs (runS a b c d list q i).t a b c d (list.getD i 0)) (ssX (runS a b c d list q i).l (runS a b c d list q i).s (runS a b c d list q i).xs (runS a b c d list q i).t a b c d (list.getD i 0)) (ssT (runS a b c d list q i).xs (runS a b c d list q i).t) (by rw [ss_len, maxLen_eq]; omega)
    simp only [Int.toNat_natCast]
    cases hg : finM (guessM (runS a b c d list q i).l (runS a b c d list q i).s (runS a b c d list q i).xs (runS a b c d list q i).t d)
    · rw [hg] at b6
      repeat' (first | with_reducible refine T.ok_ob ?_ (fun _ => ?_) | with_reducible refine T.ok_ite (fun _ => ?_) (fun _ => ?_) | with_reducible refine T.ok_leaf ?_)
      all_goals first | exact b4 | exact b5 | exact b6 | trivial | omega | contradiction | rfl | (exfalso; simp only [decide_eq_false_iff_not] at *; omega)
    · rw [hg] at b6
      cases he : finM (ssE (runS a b c d list q i).l (runS a b c d list q i).s (runS a b c d list q i).xs (runS a b c d list q i).t d (list.getD i 0))
      · rw [he] at b8
        repeat' (first | with_reducible refine T.ok_ob ?_ (fun _ => ?_) | with_reducible refine T.ok_ite (fun _ => ?_) (fun _ => ?_) | with_reducible refine T.ok_leaf ?_)
        all_goals first | exact b4 | exact b5 | exact b6 | exact b8 | trivial | omega | contradiction | rfl | (exfalso; simp only [decide_eq_false_iff_not] at *; omega)
      · rw [he] at b8
        rw [he, Bool.and_true] at hc2
        rw [hc2] at b7 ⊢
        repeat' (first | with_reducible refine T.ok_ob ?_ (fun _ => ?_) | with_reducible refine T.ok_ite (fun _ => ?_) (fun _ => ?_) | with_reducible refine T.ok_leaf ?_)
        all_goals first | exact b4 | exact b5 | exact b6 | exact b7 | exact b8 | trivial | omega | contradiction | rfl | (exfalso; simp only [decide_eq_false_iff_not] at *; omega)
  cases hf : runFin a b c d list q
  · have ho : runOk a b c d list q = false := by unfold runOk; rw [hf, Bool.and_false]
    have main : Exec (VCall P) ps_spec_l04Run (.block 0 (.loop (b_spec_l04Run_L0 g1 g2 g3 g4 g5 g6 g7))) (st 0) .ret _ := for_oneS (e := .ret) (okN a b c d list q) list.length st hf rfl rd rx
    subst hq
    rw [ho]
    repeat' (first | with_reducible refine T.ok_ob ?_ (fun _ => ?_) | with_reducible refine T.ok_ite (fun _ => ?_) (fun _ => ?_) | with_reducible refine T.ok_leaf ?_)
    all_goals first | exact a1 | exact a2 | exact a3 | exact main | contradiction | trivial | rfl
  · have ho : runOk a b c d list q = true := by rw [← hq] at hf ⊢; simp only [runOk, hf, hs, hv]; rfl
    have main : Exec (VCall P) ps_spec_l04Run (.block 0 (.loop (b_spec_l04Run_L0 g1 g2 g3 g4 g5 g6 g7))) (st 0) .normal (st list.length) := by
      refine for_allS (e := .exit 0) (okN a b c d list q) list.length st hf rfl rd ?_
      refine q_spec_l04Run_L0 _ _ _ _ _ _ _ _ _ _ _ _ _ _ _ _ _ _ _ _ ?_
      repeat' (first | with_reducible refine T.ok_ob ?_ (fun _ => ?_) | with_reducible refine T.ok_ite (fun _ => ?_) (fun _ => ?_) | with_reducible refine T.ok_leaf ?_)
      all_goals first | rfl | (exfalso; simp only [decide_eq_true_eq] at *; omega)
    subst hq
    rw [ho]
    repeat' (first | with_reducible refine T.ok_ob ?_ (fun _ => ?_) | with_reducible refine T.ok_ite (fun _ => ?_) (fun _ => ?_) | with_reducible refine T.ok_leaf ?_)
    all_goals first | exact a1 | exact a2 | exact a3 | exact main | contradiction | trivial | rfl
end

theorem k_impl_GuessesOf {P : Program} {f g_impl_run : FuncId} (h : Is_impl_GuessesOf P f g_impl_run) (c1 : C_impl_run P g_impl_run) : C_impl_GuessesOf P f := by
  intro list l s xs t a b c d hl hx
  refine q_impl_GuessesOf h list l s xs t a b c d ?_
  repeat' (first | with_reducible refine T.ok_ob ?_ (fun _ => ?_) | with_reducible refine T.ok_ite (fun _ => ?_) (fun _ => ?_) | with_reducible refine T.ok_leaf ?_)
  all_goals first | with_reducible rfl | with_reducible assumption | ((with_reducible refine c1 _ _ _ _ _ _ _ _ _ ?_ ?_) <;> (first | assumption | omega | with_reducible rfl | (simp [maxLen_eq]; done) | (simp [maxLen_eq]; omega))) | contradiction | exact fconvOk_32_64 _ | assumption | exact rfl | (simp_all []; done) | (simp_all [T.ok]; omega)

theorem k_spec_GuessesOf {P : Program} {f g_spec_l04Run : FuncId} (h : Is_spec_GuessesOf P f g_spec_l04Run) (c1 : C_spec_l04Run P g_spec_l04Run) : C_spec_GuessesOf P f := by
  intro list l s xs t a b c d hl hx
  refine q_spec_GuessesOf h list l s xs t a b c d ?_
  repeat' (first | with_reducible refine T.ok_ob ?_ (fun _ => ?_) | with_reducible refine T.ok_ite (fun _ => ?_) (fun _ => ?_) | with_reducible refine T.ok_leaf ?_)
  all_goals first | with_reducible rfl | with_reducible assumption | ((with_reducible refine c1 _ _ _ _ _ _ _ _ _ ?_ ?_) <;> (first | assumption | omega | with_reducible rfl | (simp [maxLen_eq]; done) | (simp [maxLen_eq]; omega))) | contradiction | exact fconvOk_32_64 _ | assumption | exact rfl | (simp_all []; done) | (simp_all [T.ok]; omega)


end Go.Proofs.LV
