/- Likenesses of a series with itself, guesses ahead, means of series. -/
import Derived.Test.YtjpihhdjmoldjaaLvFnI
namespace Go.Proofs.LV
open Go
set_option linter.unusedVariables false
set_option linter.unusedSimpArgs false

abbrev LL := List (List Nat)
abbrev PF (p : List Nat) (xs : LL) : AV := .sl (.par p) 0 (.ff .f32 xs)
/-- the sum of products with those a lag later -/
def delM (a : List Nat) (lag : Nat) : Nat := accN (fun i s => fadd .f32 s (fmul .f32 (a.getD i 0) (a.getD (i + lag) 0))) (a.length - lag) 0
def offM (a : List Nat) : List Nat := lessOneM a (meanM a)
def likesM (a : List Nat) (most : Nat) : List Nat := tab (most + 1) fun lag => fdiv .f32 (delM (offM a) lag) (delM (offM a) 0)
def likesOk (a : List Nat) (most : Int) : Bool := seriesM a && (inM most 0 16 && (decide (most < a.length) && (fgt .f32 (delM (offM a) 0) 0 && finAllM (likesM a most.toNat))))
def likesOut (a : List Nat) (most : Int) : List Nat := if likesOk a most = true then likesM a most.toNat else []







def lsSum (n : Nat) (r : List Nat) : Nat := accN (fun j s => fadd .f32 s (fdiv .f32 (fmul .f32 (r.getD (j + 1) 0) (r.getD (j + 1) 0)) (fofi .f32 (n - (j + 1) : Nat)))) (r.length - 1) 0
def lsM (a r : List Nat) : Nat := fmul .f32 (fmul .f32 (fofi .f32 a.length) (fadd .f32 (fofi .f32 a.length) 1073741824)) (lsSum a.length r)
def lsOk (a : List Nat) (most : Int) : Bool := likesOk a most && finM (lsM a (likesM a most.toNat))



/-! ### guesses ahead -/
def adAt (d : Nat) (n : Nat) : Nat × Nat := accN (fun _ a => (fadd .f32 a.1 (fmul .f32 a.2 d), fmul .f32 a.2 d)) n (d, d)
def adM (l s : Nat) (xs : List Nat) (t : Int) (d : Nat) (n : Nat) : List Nat := tab n fun k => fadd .f32 (fadd .f32 l (fmul .f32 (adAt d k).1 s)) (xs.getD ((t.toNat + k) % xs.length) 0)
def adOk (l s : Nat) (xs : List Nat) (t : Int) (a b c d : Nat) (n : Int) : Bool := validStateM l s xs t && (sharesM a b c d && (inM n 1 32 && finAllM (adM l s xs t d n.toNat)))

-- FN impl_isAhead
/-- impl.isAhead: slots 5, results [.t 2]; calls [4:g_impl_within]; names [(n, 0), (n, 1)] -/
def ps_impl_isAhead : List Nat := [0, 2]
def b_impl_isAhead (g_impl_within : FuncId) : VCode :=
  (.seq
   (.region false [
    ⟨some 2, .mv, [.k (.b false)], none⟩])
   (.seq
    (.region false [
     ⟨some 3, .mv, [.t 0], none⟩,
     ⟨some 4, (.call g_impl_within), [.t 3, .k (.i .i64 1), .k (.i .i64 32)], none⟩,
     ⟨some 2, .mv, [.t 4], none⟩])
    .ret))

abbrev Is_impl_isAhead (P : Program) (g_f : FuncId) (g_impl_within : FuncId) : Prop := FnIs P g_f 5 [.t 2] (b_impl_isAhead g_impl_within)

abbrev C_impl_isAhead (P : Program) (g_f : FuncId) : Prop := ∀ (n : Int), VCall P g_f [.i .i64 n] (.b (inM n 1 32))
def oc1_impl_isAhead (as : List AV) : T AV := match as with | [.i .i64 n] => .leaf (.b (inM n 1 32)) | _ => .fail
def oc_impl_isAhead (n : Int) (d : Nat) (as : List AV) : T AV := match d with | 4 => oc1_impl_within as | _ => .fail



theorem q_impl_isAhead {P : Program} {g_f : FuncId} {g_impl_within : FuncId} (h_ : Is_impl_isAhead P g_f g_impl_within) (n : Int) (ht : T.ok (fun x_ => x_ = .b (inM n 1 32)) (
      T.ob ((VCall P) g_impl_within [AV.i IntKind.i64 n, AV.i IntKind.i64 1, AV.i IntKind.i64 32] (AV.b (inM n 1 32))) (T.leaf (AV.b (inM n 1 32))))) :
    VCall P g_f [.i .i64 n] (.b (inM n 1 32)) := h_.call_of ps_impl_isAhead ⟨oc_impl_isAhead n, fun _ _ => none⟩ (by kernel_rfl) ht

-- END impl_isAhead

-- FN impl_AheadOf
/-- impl.AheadOf: slots 69, results [.t 6, .t 7]; calls [13:g_impl_ValidState, 17:g_impl_ValidShares, 22:g_impl_isAhead, 66:g_impl_ifAll]; names [(s, 0), (h, 1), (count, 2), (s, 3), (h, 4), (count, 5), (d, 8), (f, 9), (out, 10), (k, 11)] -/
def ps_impl_AheadOf : List Nat := [0, 1, 2, 3, 4, 6, 7, 8, 9, 10, 11, 24, 30, 31, 32]
def lv_impl_AheadOf_L0 : List Nat := [3, 4, 8, 9, 10, 30, 31]
def b_impl_AheadOf_L0 (g_impl_ValidState g_impl_ValidShares g_impl_isAhead g_impl_ifAll : FuncId) : VCode :=
  (.seq
   (.region false [
    ⟨some 32, (.bin .lss), [.t 31, .t 30], none⟩])
   (.seq
    (.cond (.t 32)
     .skip
     (.exit 0))
    (.seq
     (.block 1
      (.seq
       (.region false [
        ⟨some 33, .mv, [.t 31], none⟩,
        ⟨some 11, .mv, [.t 33], none⟩])
       (.seq
        (.region true [
         ⟨some 34, .mv, [.t 10], none⟩,
         ⟨some 35, (.faddr 0), [.t 3], none⟩,
         ⟨some 36, .load, [.t 35], none⟩,
         ⟨some 37, .mv, [.t 8], none⟩,
         ⟨some 38, (.faddr 1), [.t 3], none⟩,
         ⟨some 39, .load, [.t 38], none⟩,
         ⟨some 40, (.bin .mul), [.t 37, .t 39], none⟩,
         ⟨some 41, (.bin .add), [.t 36, .t 40], none⟩,
         ⟨some 42, (.faddr 2), [.t 3], none⟩,
         ⟨some 43, .load, [.t 42], none⟩,
         ⟨some 44, (.faddr 3), [.t 3], none⟩,
         ⟨some 45, .load, [.t 44], none⟩,
         ⟨some 46, .mv, [.t 11], none⟩,
         ⟨some 47, (.bin .add), [.t 45, .t 46], none⟩,
         ⟨some 48, (.faddr 2), [.t 3], none⟩,
         ⟨some 49, .load, [.t 48], none⟩,
         ⟨some 50, .len, [.t 49], none⟩,
         ⟨some 51, (.bin .rem), [.t 47, .t 50], none⟩,
         ⟨some 52, .iaddr, [.t 43, .t 51], none⟩,
         ⟨some 53, .load, [.t 52], none⟩,
         ⟨some 54, (.bin .add), [.t 41, .t 53], none⟩,
         ⟨some 55, (.lit true (.f .f32 [])), [.t 54], none⟩,
         ⟨some 56, .app, [.t 34, .t 55], none⟩,
         ⟨some 10, .mv, [.t 56], none⟩])
        (.seq
         (.region false [
          ⟨some 57, .mv, [.t 9], none⟩,
          ⟨some 58, (.faddr 3), [.t 4], none⟩,
          ⟨some 59, .load, [.t 58], none⟩,
          ⟨some 60, (.bin .mul), [.t 57, .t 59], none⟩,
          ⟨some 9, .mv, [.t 60], none⟩])
         (.region false [
          ⟨some 61, .mv, [.t 8], none⟩,
          ⟨some 62, .mv, [.t 9], none⟩,
          ⟨some 63, (.bin .add), [.t 61, .t 62], none⟩,
          ⟨some 8, .mv, [.t 63], none⟩])))))
     (.region false [
      ⟨some 64, (.bin .add), [.t 31, .k (.i .i64 1)], none⟩,
      ⟨some 31, .mv, [.t 64], none⟩]))))

def b_impl_AheadOf (g_impl_ValidState g_impl_ValidShares g_impl_isAhead g_impl_ifAll : FuncId) : VCode :=
  (.seq
   (.region false [
    ⟨some 3, .boxN, [.t 0], none⟩,
    ⟨some 4, .boxN, [.t 1], none⟩,
    ⟨some 6, (.nilsl (.f .f32 [])), [], none⟩,
    ⟨some 7, .mv, [.k (.b false)], none⟩])
   (.seq
    (.seq
     (.region false [
      ⟨some 12, (.loadN 4), [.t 3], none⟩,
      ⟨some 13, (.call g_impl_ValidState), [.t 12], none⟩,
      ⟨some 14, .not, [.t 13], none⟩,
      ⟨some 15, .mv, [.t 14], none⟩,
      ⟨some 16, (.loadN 4), [.t 4], some (15, false)⟩,
      ⟨some 17, (.call g_impl_ValidShares), [.t 16], some (15, false)⟩,
      ⟨some 18, .not, [.t 17], some (15, false)⟩,
      ⟨some 19, .pick, [.t 15, .k (.b true), .t 18], none⟩,
      ⟨some 20, .mv, [.t 19], none⟩,
      ⟨some 21, .mv, [.t 2], some (20, false)⟩,
      ⟨some 22, (.call g_impl_isAhead), [.t 21], some (20, false)⟩,
      ⟨some 23, .not, [.t 22], some (20, false)⟩,
      ⟨some 24, .pick, [.t 20, .k (.b true), .t 23], none⟩])
     (.cond (.t 24)
      (.seq
       (.region false [
        ⟨some 6, (.nilsl (.f .f32 [])), [], none⟩,
        ⟨some 7, .mv, [.k (.b false)], none⟩])
       .ret)
      .skip))
    (.seq
     (.region true [
      ⟨some 25, (.faddr 3), [.t 4], none⟩,
      ⟨some 26, .load, [.t 25], none⟩,
      ⟨some 27, (.faddr 3), [.t 4], none⟩,
      ⟨some 28, .load, [.t 27], none⟩,
      ⟨some 8, .mv, [.t 26], none⟩,
      ⟨some 9, .mv, [.t 28], none⟩])
     (.seq
      (.region false [
       ⟨some 29, (.lit true (.f .f32 [])), [], none⟩,
       ⟨some 10, .mv, [.t 29], none⟩])
      (.seq
       (.seq
        (.region false [
         ⟨some 30, .mv, [.t 2], none⟩,
         ⟨some 31, .mv, [.k (.i .i64 0)], none⟩])
        (.block 0 (.loop (b_impl_AheadOf_L0 g_impl_ValidState g_impl_ValidShares g_impl_isAhead g_impl_ifAll))))
       (.seq
        (.region false [
         ⟨some 65, .mv, [.t 10], none⟩,
         ⟨some 66, (.call g_impl_ifAll), [.t 65], none⟩,
         ⟨some 67, (.extract 0), [.t 66], none⟩,
         ⟨some 68, (.extract 1), [.t 66], none⟩,
         ⟨some 6, .mv, [.t 67], none⟩,
         ⟨some 7, .mv, [.t 68], none⟩])
        .ret))))))

abbrev Is_impl_AheadOf (P : Program) (g_f : FuncId) (g_impl_ValidState g_impl_ValidShares g_impl_isAhead g_impl_ifAll : FuncId) : Prop := FnIs P g_f 69 [.t 6, .t 7] (b_impl_AheadOf g_impl_ValidState g_impl_ValidShares g_impl_isAhead g_impl_ifAll)

abbrev C_impl_AheadOf (P : Program) (g_f : FuncId) : Prop := ∀ (l : Nat) (s : Nat) (xs : List Nat) (t : Int) (a : Nat) (b : Nat) (c : Nat) (d : Nat) (n : Int) (hx : xs.length ≤ maxLen), VCall P g_f [.agg (ST (.par [0, 2]) l s xs t), .agg (F4 a b c d), .i .i64 n] (.tup [OS 0 .f32 (if adOk l s xs t a b c d n = true then adM l s xs t d n.toNat else []), .b (adOk l s xs t a b c d n)])
def oc1_impl_AheadOf (as : List AV) : T AV := match as with | [.agg [.f _ l, .f _ s, .sl _ _ (.f _ xs), .i _ t], .agg [.f _ a, .f _ b, .f _ c, .f _ d], .i .i64 n] => .leaf (.tup [OS 0 .f32 (if adOk l s xs t a b c d n = true then adM l s xs t d n.toNat else []), .b (adOk l s xs t a b c d n)]) | _ => .fail
def oc_impl_AheadOf (l : Nat) (s : Nat) (xs : List Nat) (t : Int) (a : Nat) (b : Nat) (c : Nat) (d : Nat) (n : Int) (d : Nat) (as : List AV) : T AV := match d with | 13 => oc1_impl_ValidState as | 17 => oc1_impl_ValidShares as | 22 => oc1_impl_isAhead as | 66 => oc1_impl_ifAll as | _ => .fail
def h_impl_AheadOf_L0 (l : Nat) (s : Nat) (xs : List Nat) (t : Int) (a : Nat) (b : Nat) (c : Nat) (d : Nat) (n : Int) (s0 : Nat) (s1 : Nat) (s2 : List Nat) (s3 : Int) (h0 : Nat) (h1 : Nat) (h2 : Nat) (h3 : Nat) (d2 : Nat) (f : Nat) (out : List Nat) (v31 : Int) : Env := [.any, .any, .any, .bx (Tag.own 24) [.f FloatKind.f32 s0, .f FloatKind.f32 s1, .sl (Tag.par [0, 2]) 0 (.f FloatKind.f32 s2), .i IntKind.i64 s3], .bx (Tag.own 32) [.f FloatKind.f32 h0, .f FloatKind.f32 h1, .f FloatKind.f32 h2, .f FloatKind.f32 h3], .any, .any, .any, .f FloatKind.f32 d2, .f FloatKind.f32 f, .sl (Tag.own 232) 0 (.f FloatKind.f32 out)] ++ anys 19 ++ [AV.i IntKind.i64 n, .i IntKind.i64 v31] ++ anys 37

theorem q_impl_AheadOf_L0 {VC : FuncId → List AV → AV → Prop} {g_impl_ValidState g_impl_ValidShares g_impl_isAhead g_impl_ifAll : FuncId} (l : Nat) (s : Nat) (xs : List Nat) (t : Int) (a : Nat) (b : Nat) (c : Nat) (d : Nat) (n : Int) (s0 : Nat) (s1 : Nat) (s2 : List Nat) (s3 : Int) (h0 : Nat) (h1 : Nat) (h2 : Nat) (h3 : Nat) (d2 : Nat) (f : Nat) (out : List Nat) (v31 : Int) {e_ : Ex} {σ_ : Env} (ht : T.ok (fun x_ => x_ = (e_, σ_)) (
      T.ite (decide (v31 < n))
        (T.ob ((↑(List.length s2) : Int) ≠ 0)
          (T.ob (0 ≤ Int.tmod (IntKind.wrap IntKind.i64 (s3 + v31)) (↑(List.length s2) : Int) ∧ Int.tmod (IntKind.wrap IntKind.i64 (s3 + v31)) (↑(List.length s2) : Int) < (↑(List.length s2) : Int))
            (T.ob
              (List.length out + List.length [fadd FloatKind.f32 (fadd FloatKind.f32 s0 (fmul FloatKind.f32 d2 s1)) (List.getD s2 (Int.toNat (Int.tmod (IntKind.wrap IntKind.i64 (s3 + v31)) (↑(List.length s2) : Int))) 0)] ≤
                4294967296)
              (T.leaf
                (Ex.normal,
                  h_impl_AheadOf_L0 l s xs t a b c d n s0 s1 s2 s3 h0 h1 h2 h3 (fadd FloatKind.f32 d2 (fmul FloatKind.f32 f h3)) (fmul FloatKind.f32 f h3)
                    (out ++ [fadd FloatKind.f32 (fadd FloatKind.f32 s0 (fmul FloatKind.f32 d2 s1)) (List.getD s2 (Int.toNat (Int.tmod (IntKind.wrap IntKind.i64 (s3 + v31)) (↑(List.length s2) : Int))) 0)])
                    (IntKind.wrap IntKind.i64 (v31 + 1)))))))
        (T.leaf (Ex.exit 0, h_impl_AheadOf_L0 l s xs t a b c d n s0 s1 s2 s3 h0 h1 h2 h3 d2 f out v31)))) :
    Exec VC ps_impl_AheadOf (b_impl_AheadOf_L0 g_impl_ValidState g_impl_ValidShares g_impl_isAhead g_impl_ifAll) (h_impl_AheadOf_L0 l s xs t a b c d n s0 s1 s2 s3 h0 h1 h2 h3 d2 f out v31) e_ σ_ := evL_of (lv := lv_impl_AheadOf_L0) (rs := [6, 7]) (O := ⟨oc_impl_AheadOf l s xs t a b c d n, fun _ _ => none⟩) (by kernel_rfl) ht

theorem q_impl_AheadOf {P : Program} {g_f : FuncId} {g_impl_ValidState g_impl_ValidShares g_impl_isAhead g_impl_ifAll : FuncId} (h_ : Is_impl_AheadOf P g_f g_impl_ValidState g_impl_ValidShares g_impl_isAhead g_impl_ifAll) (l : Nat) (s : Nat) (xs : List Nat) (t : Int) (a : Nat) (b : Nat) (c : Nat) (d : Nat) (n : Int) (ht : T.ok (fun x_ => x_ = .tup [OS 0 .f32 (if adOk l s xs t a b c d n = true then adM l s xs t d n.toNat else []), .b (adOk l s xs t a b c d n)]) (
      T.ob (false = false)
        (T.ob (false = false)
          (T.ob ((VCall P) g_impl_ValidState [AV.agg [AV.f FloatKind.f32 l, AV.f FloatKind.f32 s, AV.sl (Tag.par [0, 2]) 0 (Cont.f FloatKind.f32 xs), AV.i IntKind.i64 t]] (AV.b (validStateM l s xs t)))
            (T.ite (!validStateM l s xs t) (T.leaf (AV.tup [AV.sl (Tag.own 0) 0 (Cont.f FloatKind.f32 []), AV.b false]))
              (T.ob ((VCall P) g_impl_ValidShares [AV.agg [AV.f FloatKind.f32 a, AV.f FloatKind.f32 b, AV.f FloatKind.f32 c, AV.f FloatKind.f32 d]] (AV.b (sharesM a b c d)))
                (T.ite (!sharesM a b c d) (T.leaf (AV.tup [AV.sl (Tag.own 0) 0 (Cont.f FloatKind.f32 []), AV.b false]))
                  (T.ob ((VCall P) g_impl_isAhead [AV.i IntKind.i64 n] (AV.b (inM n 1 32)))
                    (T.ite (!inM n 1 32) (T.leaf (AV.tup [AV.sl (Tag.own 0) 0 (Cont.f FloatKind.f32 []), AV.b false]))
                      (T.ob
                        (Exec (VCall P) ps_impl_AheadOf (VCode.block 0 (VCode.loop (b_impl_AheadOf_L0 g_impl_ValidState g_impl_ValidShares g_impl_isAhead g_impl_ifAll)))
                          (h_impl_AheadOf_L0 l s xs t a b c d n l s xs t a b c d d d [] 0) Ex.normal
                          (h_impl_AheadOf_L0 l s xs t a b c d n l s xs t a b c d (Prod.fst (adAt d (Int.toNat n))) (Prod.snd (adAt d (Int.toNat n))) (adM l s xs t d (Int.toNat n)) n))
                        (T.ob
                          ((VCall P) g_impl_ifAll [AV.sl (Tag.par [0]) 0 (Cont.f FloatKind.f32 (adM l s xs t d (Int.toNat n)))]
                            (AV.tup [AV.sl (Tag.par [0]) 0 (Cont.f FloatKind.f32 (ifAllM (adM l s xs t d (Int.toNat n)))), AV.b (finAllM (adM l s xs t d (Int.toNat n)))]))
                          (T.leaf (AV.tup [AV.sl (Tag.own 0) 0 (Cont.f FloatKind.f32 (ifAllM (adM l s xs t d (Int.toNat n)))), AV.b (finAllM (adM l s xs t d (Int.toNat n)))]))))))))))))) :
    VCall P g_f [.agg (ST (.par [0, 2]) l s xs t), .agg (F4 a b c d), .i .i64 n] (.tup [OS 0 .f32 (if adOk l s xs t a b c d n = true then adM l s xs t d n.toNat else []), .b (adOk l s xs t a b c d n)]) := h_.call_of ps_impl_AheadOf ⟨oc_impl_AheadOf l s xs t a b c d n, fun id σ => match id with | 0 => some (lv_impl_AheadOf_L0, .leaf (.normal, h_impl_AheadOf_L0 l s xs t a b c d n l s xs t a b c d (adAt d n.toNat).1 (adAt d n.toNat).2 (adM l s xs t d n.toNat) n)) | _ => none⟩ (by kernel_rfl) ht

-- END impl_AheadOf

-- FN spec_AheadOf
/-- spec.AheadOf: slots 65, results [.t 6, .t 7]; calls [13:g_spec_l04Can, 17:g_spec_l00In, 62:g_spec_l02List]; names [(s, 0), (h, 1), (count, 2), (s, 3), (h, 4), (count, 5), (out, 8), (d, 9), (f, 10), (k, 11), (at, 12)] -/
def ps_spec_AheadOf : List Nat := [0, 1, 2, 3, 4, 6, 7, 8, 9, 10, 11, 12, 19, 27]
def lv_spec_AheadOf_L0 : List Nat := [2, 3, 4, 8, 9, 10, 11]
def b_spec_AheadOf_L0 (g_spec_l04Can g_spec_l00In g_spec_l02List : FuncId) : VCode :=
  (.seq
   (.seq
    (.region false [
     ⟨some 25, .mv, [.t 11], none⟩,
     ⟨some 26, .mv, [.t 2], none⟩,
     ⟨some 27, (.bin .lss), [.t 25, .t 26], none⟩])
    (.cond (.t 27)
     .skip
     (.exit 0)))
   (.seq
    (.block 1
     (.seq
      (.region false [
       ⟨some 30, (.faddr 3), [.t 3], none⟩,
       ⟨some 31, .load, [.t 30], none⟩,
       ⟨some 32, .mv, [.t 11], none⟩,
       ⟨some 33, (.bin .add), [.t 31, .t 32], none⟩,
       ⟨some 34, (.faddr 2), [.t 3], none⟩,
       ⟨some 35, .load, [.t 34], none⟩,
       ⟨some 36, .len, [.t 35], none⟩,
       ⟨some 37, (.bin .rem), [.t 33, .t 36], none⟩,
       ⟨some 12, .mv, [.t 37], none⟩])
      (.seq
       (.region true [
        ⟨some 38, .mv, [.t 8], none⟩,
        ⟨some 39, (.faddr 0), [.t 3], none⟩,
        ⟨some 40, .load, [.t 39], none⟩,
        ⟨some 41, .mv, [.t 9], none⟩,
        ⟨some 42, (.faddr 1), [.t 3], none⟩,
        ⟨some 43, .load, [.t 42], none⟩,
        ⟨some 44, (.bin .mul), [.t 41, .t 43], none⟩,
        ⟨some 45, (.bin .add), [.t 40, .t 44], none⟩,
        ⟨some 46, (.faddr 2), [.t 3], none⟩,
        ⟨some 47, .load, [.t 46], none⟩,
        ⟨some 48, .mv, [.t 12], none⟩,
        ⟨some 49, .iaddr, [.t 47, .t 48], none⟩,
        ⟨some 50, .load, [.t 49], none⟩,
        ⟨some 51, (.bin .add), [.t 45, .t 50], none⟩,
        ⟨some 52, (.lit true (.f .f32 [])), [.t 51], none⟩,
        ⟨some 53, .app, [.t 38, .t 52], none⟩,
        ⟨some 8, .mv, [.t 53], none⟩])
       (.seq
        (.region false [
         ⟨some 54, .mv, [.t 10], none⟩,
         ⟨some 55, (.faddr 3), [.t 4], none⟩,
         ⟨some 56, .load, [.t 55], none⟩,
         ⟨some 57, (.bin .mul), [.t 54, .t 56], none⟩,
         ⟨some 10, .mv, [.t 57], none⟩])
        (.region false [
         ⟨some 58, .mv, [.t 9], none⟩,
         ⟨some 59, .mv, [.t 10], none⟩,
         ⟨some 60, (.bin .add), [.t 58, .t 59], none⟩,
         ⟨some 9, .mv, [.t 60], none⟩])))))
    (.region false [
     ⟨some 28, .mv, [.t 11], none⟩,
     ⟨some 29, (.bin .add), [.t 28, .k (.i .i64 1)], none⟩,
     ⟨some 11, .mv, [.t 29], none⟩])))

def b_spec_AheadOf (g_spec_l04Can g_spec_l00In g_spec_l02List : FuncId) : VCode :=
  (.seq
   (.region false [
    ⟨some 3, .boxN, [.t 0], none⟩,
    ⟨some 4, .boxN, [.t 1], none⟩,
    ⟨some 6, (.nilsl (.f .f32 [])), [], none⟩,
    ⟨some 7, .mv, [.k (.b false)], none⟩])
   (.seq
    (.seq
     (.region false [
      ⟨some 13, (.call g_spec_l04Can), [.t 3, .t 4], none⟩,
      ⟨some 14, .not, [.t 13], none⟩,
      ⟨some 15, .mv, [.t 14], none⟩,
      ⟨some 16, .mv, [.t 2], some (15, false)⟩,
      ⟨some 17, (.call g_spec_l00In), [.t 16, .k (.i .i64 1), .k (.i .i64 32)], some (15, false)⟩,
      ⟨some 18, .not, [.t 17], some (15, false)⟩,
      ⟨some 19, .pick, [.t 15, .k (.b true), .t 18], none⟩])
     (.cond (.t 19)
      (.seq
       (.region false [
        ⟨some 6, (.nilsl (.f .f32 [])), [], none⟩,
        ⟨some 7, .mv, [.k (.b false)], none⟩])
       .ret)
      .skip))
    (.seq
     (.region false [
      ⟨some 20, (.lit true (.f .f32 [])), [], none⟩,
      ⟨some 8, .mv, [.t 20], none⟩])
     (.seq
      (.region false [
       ⟨some 21, (.faddr 3), [.t 4], none⟩,
       ⟨some 22, .load, [.t 21], none⟩,
       ⟨some 9, .mv, [.t 22], none⟩])
      (.seq
       (.region false [
        ⟨some 23, (.faddr 3), [.t 4], none⟩,
        ⟨some 24, .load, [.t 23], none⟩,
        ⟨some 10, .mv, [.t 24], none⟩])
       (.seq
        (.seq
         (.region false [
          ⟨some 11, .mv, [.k (.i .i64 0)], none⟩])
         (.block 0 (.loop (b_spec_AheadOf_L0 g_spec_l04Can g_spec_l00In g_spec_l02List))))
        (.seq
         (.region false [
          ⟨some 61, .mv, [.t 8], none⟩,
          ⟨some 62, (.call g_spec_l02List), [.t 61], none⟩,
          ⟨some 63, (.extract 0), [.t 62], none⟩,
          ⟨some 64, (.extract 1), [.t 62], none⟩,
          ⟨some 6, .mv, [.t 63], none⟩,
          ⟨some 7, .mv, [.t 64], none⟩])
         .ret)))))))

abbrev Is_spec_AheadOf (P : Program) (g_f : FuncId) (g_spec_l04Can g_spec_l00In g_spec_l02List : FuncId) : Prop := FnIs P g_f 65 [.t 6, .t 7] (b_spec_AheadOf g_spec_l04Can g_spec_l00In g_spec_l02List)

abbrev C_spec_AheadOf (P : Program) (g_f : FuncId) : Prop := ∀ (l : Nat) (s : Nat) (xs : List Nat) (t : Int) (a : Nat) (b : Nat) (c : Nat) (d : Nat) (n : Int) (hx : xs.length ≤ maxLen), VCall P g_f [.agg (ST (.par [0, 2]) l s xs t), .agg (F4 a b c d), .i .i64 n] (.tup [OS 0 .f32 (if adOk l s xs t a b c d n = true then adM l s xs t d n.toNat else []), .b (adOk l s xs t a b c d n)])
def oc1_spec_AheadOf (as : List AV) : T AV := match as with | [.agg [.f _ l, .f _ s, .sl _ _ (.f _ xs), .i _ t], .agg [.f _ a, .f _ b, .f _ c, .f _ d], .i .i64 n] => .leaf (.tup [OS 0 .f32 (if adOk l s xs t a b c d n = true then adM l s xs t d n.toNat else []), .b (adOk l s xs t a b c d n)]) | _ => .fail
def oc_spec_AheadOf (l : Nat) (s : Nat) (xs : List Nat) (t : Int) (a : Nat) (b : Nat) (c : Nat) (d : Nat) (n : Int) (d : Nat) (as : List AV) : T AV := match d with | 13 => oc1_spec_l04Can as | 17 => oc1_spec_l00In as | 62 => oc1_spec_l02List as | _ => .fail
def h_spec_AheadOf_L0 (l : Nat) (s : Nat) (xs : List Nat) (t : Int) (a : Nat) (b : Nat) (c : Nat) (d : Nat) (n : Int) (s0 : Nat) (s1 : Nat) (s2 : List Nat) (s3 : Int) (h0 : Nat) (h1 : Nat) (h2 : Nat) (h3 : Nat) (out : List Nat) (d2 : Nat) (f : Nat) (k : Int) : Env := [.any, .any, AV.i IntKind.i64 n, .bx (Tag.own 24) [.f FloatKind.f32 s0, .f FloatKind.f32 s1, .sl (Tag.par [0, 2]) 0 (.f FloatKind.f32 s2), .i IntKind.i64 s3], .bx (Tag.own 32) [.f FloatKind.f32 h0, .f FloatKind.f32 h1, .f FloatKind.f32 h2, .f FloatKind.f32 h3], .any, .any, .any, .sl (Tag.own 160) 0 (.f FloatKind.f32 out), .f FloatKind.f32 d2, .f FloatKind.f32 f, .i IntKind.i64 k] ++ anys 53

theorem q_spec_AheadOf_L0 {VC : FuncId → List AV → AV → Prop} {g_spec_l04Can g_spec_l00In g_spec_l02List : FuncId} (l : Nat) (s : Nat) (xs : List Nat) (t : Int) (a : Nat) (b : Nat) (c : Nat) (d : Nat) (n : Int) (s0 : Nat) (s1 : Nat) (s2 : List Nat) (s3 : Int) (h0 : Nat) (h1 : Nat) (h2 : Nat) (h3 : Nat) (out : List Nat) (d2 : Nat) (f : Nat) (k : Int) {e_ : Ex} {σ_ : Env} (ht : T.ok (fun x_ => x_ = (e_, σ_)) (
      T.ite (decide (k < n))
        (T.ob ((↑(List.length s2) : Int) ≠ 0)
          (T.ob (0 ≤ Int.tmod (IntKind.wrap IntKind.i64 (s3 + k)) (↑(List.length s2) : Int) ∧ Int.tmod (IntKind.wrap IntKind.i64 (s3 + k)) (↑(List.length s2) : Int) < (↑(List.length s2) : Int))
            (T.ob
              (List.length out + List.length [fadd FloatKind.f32 (fadd FloatKind.f32 s0 (fmul FloatKind.f32 d2 s1)) (List.getD s2 (Int.toNat (Int.tmod (IntKind.wrap IntKind.i64 (s3 + k)) (↑(List.length s2) : Int))) 0)] ≤
                4294967296)
              (T.leaf
                (Ex.normal,
                  h_spec_AheadOf_L0 l s xs t a b c d n s0 s1 s2 s3 h0 h1 h2 h3
                    (out ++ [fadd FloatKind.f32 (fadd FloatKind.f32 s0 (fmul FloatKind.f32 d2 s1)) (List.getD s2 (Int.toNat (Int.tmod (IntKind.wrap IntKind.i64 (s3 + k)) (↑(List.length s2) : Int))) 0)])
                    (fadd FloatKind.f32 d2 (fmul FloatKind.f32 f h3)) (fmul FloatKind.f32 f h3) (IntKind.wrap IntKind.i64 (k + 1)))))))
        (T.leaf (Ex.exit 0, h_spec_AheadOf_L0 l s xs t a b c d n s0 s1 s2 s3 h0 h1 h2 h3 out d2 f k)))) :
    Exec VC ps_spec_AheadOf (b_spec_AheadOf_L0 g_spec_l04Can g_spec_l00In g_spec_l02List) (h_spec_AheadOf_L0 l s xs t a b c d n s0 s1 s2 s3 h0 h1 h2 h3 out d2 f k) e_ σ_ := evL_of (lv := lv_spec_AheadOf_L0) (rs := [6, 7]) (O := ⟨oc_spec_AheadOf l s xs t a b c d n, fun _ _ => none⟩) (by kernel_rfl) ht

theorem q_spec_AheadOf {P : Program} {g_f : FuncId} {g_spec_l04Can g_spec_l00In g_spec_l02List : FuncId} (h_ : Is_spec_AheadOf P g_f g_spec_l04Can g_spec_l00In g_spec_l02List) (l : Nat) (s : Nat) (xs : List Nat) (t : Int) (a : Nat) (b : Nat) (c : Nat) (d : Nat) (n : Int) (ht : T.ok (fun x_ => x_ = .tup [OS 0 .f32 (if adOk l s xs t a b c d n = true then adM l s xs t d n.toNat else []), .b (adOk l s xs t a b c d n)]) (
      T.ob (false = false)
        (T.ob (false = false)
          (T.ob
            ((VCall P) g_spec_l04Can
              [AV.bx (Tag.par [0]) [AV.f FloatKind.f32 l, AV.f FloatKind.f32 s, AV.sl (Tag.par [0, 2]) 0 (Cont.f FloatKind.f32 xs), AV.i IntKind.i64 t],
                AV.bx (Tag.par [1]) [AV.f FloatKind.f32 a, AV.f FloatKind.f32 b, AV.f FloatKind.f32 c, AV.f FloatKind.f32 d]]
              (AV.b (validStateM l s xs t && sharesM a b c d)))
            (T.ite (!(validStateM l s xs t && sharesM a b c d)) (T.leaf (AV.tup [AV.sl (Tag.own 0) 0 (Cont.f FloatKind.f32 []), AV.b false]))
              (T.ob ((VCall P) g_spec_l00In [AV.i IntKind.i64 n, AV.i IntKind.i64 1, AV.i IntKind.i64 32] (AV.b (inM n 1 32)))
                (T.ite (!inM n 1 32) (T.leaf (AV.tup [AV.sl (Tag.own 0) 0 (Cont.f FloatKind.f32 []), AV.b false]))
                  (T.ob
                    (Exec (VCall P) ps_spec_AheadOf (VCode.block 0 (VCode.loop (b_spec_AheadOf_L0 g_spec_l04Can g_spec_l00In g_spec_l02List))) (h_spec_AheadOf_L0 l s xs t a b c d n l s xs t a b c d [] d d 0) Ex.normal
                      (h_spec_AheadOf_L0 l s xs t a b c d n l s xs t a b c d (adM l s xs t d (Int.toNat n)) (Prod.fst (adAt d (Int.toNat n))) (Prod.snd (adAt d (Int.toNat n))) n))
                    (T.ob
                      ((VCall P) g_spec_l02List [AV.sl (Tag.par [0]) 0 (Cont.f FloatKind.f32 (adM l s xs t d (Int.toNat n)))]
                        (AV.tup [AV.sl (Tag.par [0]) 0 (Cont.f FloatKind.f32 (ifAllM (adM l s xs t d (Int.toNat n)))), AV.b (finAllM (adM l s xs t d (Int.toNat n)))]))
                      (T.leaf (AV.tup [AV.sl (Tag.own 0) 0 (Cont.f FloatKind.f32 (ifAllM (adM l s xs t d (Int.toNat n)))), AV.b (finAllM (adM l s xs t d (Int.toNat n)))]))))))))))) :
    VCall P g_f [.agg (ST (.par [0, 2]) l s xs t), .agg (F4 a b c d), .i .i64 n] (.tup [OS 0 .f32 (if adOk l s xs t a b c d n = true then adM l s xs t d n.toNat else []), .b (adOk l s xs t a b c d n)]) := h_.call_of ps_spec_AheadOf ⟨oc_spec_AheadOf l s xs t a b c d n, fun id σ => match id with | 0 => some (lv_spec_AheadOf_L0, .leaf (.normal, h_spec_AheadOf_L0 l s xs t a b c d n l s xs t a b c d (adM l s xs t d n.toNat) (adAt d n.toNat).1 (adAt d n.toNat).2 n)) | _ => none⟩ (by kernel_rfl) ht

-- END spec_AheadOf

/-! ### means of series -/
def meanOk (xs : List Nat) : Bool := seriesM xs && finM (meanM xs)



def msFin (xs : LL) : Bool := allN xs.length fun i => meanOk (xs.getD i [])
def msOk (xs : LL) (w : Int) : Bool := decide (1 ≤ xs.length) && (decide (xs.length ≤ 16) && (inM w 1 8 && msFin xs))
def msM (xs : LL) : List Nat := tab xs.length fun i => meanM (xs.getD i [])



theorem off_len (a : List Nat) : (offM a).length = a.length := lessOne_len _ _
theorem likes_len (a : List Nat) (m : Nat) : (likesM a m).length = m + 1 := tab_len _ _
theorem del_zero (x : List Nat) : dotM x x = delM x 0 := rfl
theorem dot_shift (x : List Nat) (lag : Nat) : dotM (x.take (x.length - lag)) (x.drop lag) = delM x lag := by
  unfold dotM delM
  rw [List.length_take, Nat.min_eq_left (Nat.sub_le _ _)]
  refine accN_congr fun i s hi => ?_
  rw [getD_take _ _ _ _ hi, getD_drop', Nat.add_comm lag i]
theorem small_sub : ∀ n : Fin 97, ∀ k : Fin 18, k.val ≤ n.val → fsub .f32 (fofi .f32 (n.val : Int)) (fofi .f32 (k.val : Int)) = fofi .f32 ((n.val - k.val : Nat) : Int) := by decide +kernel
theorem likesOk_in {a : List Nat} {most : Int} (h : likesOk a most = true) : 1 ≤ a.length ∧ a.length ≤ 96 ∧ 0 ≤ most ∧ most ≤ 16 ∧ most < a.length := by
  unfold likesOk at h
  simp only [Bool.and_eq_true, decide_eq_true_eq] at h
  have := series_len h.1
  have : 0 ≤ most ∧ most ≤ 16 := by simpa [inM] using h.2.1
  omega
theorem k_impl_isAhead {P : Program} {f g_impl_within : FuncId} (h : Is_impl_isAhead P f g_impl_within) (c1 : C_impl_within P g_impl_within) : C_impl_isAhead P f := by
  intro n
  refine q_impl_isAhead h n ?_
  repeat' (first | with_reducible refine T.ok_ob ?_ (fun _ => ?_) | with_reducible refine T.ok_ite (fun _ => ?_) (fun _ => ?_) | with_reducible refine T.ok_leaf ?_)
  all_goals first | with_reducible rfl | with_reducible assumption | with_reducible exact c1 _ _ _ | contradiction | exact fconvOk_32_64 _ | assumption | exact rfl | (simp_all []; done) | (simp_all [T.ok]; omega)

theorem ad_len (l s : Nat) (xs : List Nat) (t : Int) (d n : Nat) : (adM l s xs t d n).length = n := tab_len _ _
theorem k_impl_AheadOf {P : Program} {f g1 g2 g3 g4 : FuncId} (h : Is_impl_AheadOf P f g1 g2 g3 g4) (c1 : C_impl_ValidState P g1) (c2 : C_impl_ValidShares P g2) (c3 : C_impl_isAhead P g3) (c4 : C_impl_ifAll P g4) : C_impl_AheadOf P f := by
  intro l s xs t a b c d n hx
  refine q_impl_AheadOf h l s xs t a b c d n ⟨rfl, fun _ => ⟨rfl, fun _ => ⟨c1 _ _ _ _ hx, fun _ => ⟨fun h0 => ?_, fun h0 => ⟨c2 _ _ _ _, fun _ => ⟨fun h1 => ?_, fun h1 => ⟨c3 _, fun _ => ⟨fun h2 => ?_, fun h2 => ?_⟩⟩⟩⟩⟩⟩⟩⟩
  · simp at h0; simp [T.ok, adOk, h0]
  · simp at h1; simp [T.ok, adOk, h1]
  · simp at h2; simp [T.ok, adOk, h2]
  · simp only [Bool.not_eq_false'] at h0 h1 h2
    have hv := valid_at h0
    have hn : 1 ≤ n ∧ n ≤ 32 := by simpa [inM] using h2
    obtain ⟨m, rfl⟩ : ∃ m : Nat, n = m := ⟨n.toNat, by omega⟩
    obtain ⟨k, rfl⟩ : ∃ k : Nat, t = k := ⟨t.toNat, by omega⟩
    rw [Int.toNat_natCast]
    have al := ad_len l s xs k d m
    refine ⟨?_, fun _ => ⟨c4 _ (by rw [al, maxLen_eq]; omega), fun _ => ?_⟩⟩
    · refine for_up (e := .exit 0) m (fun i => h_impl_AheadOf_L0 l s xs k a b c d m l s xs k a b c d (adAt d i).1 (adAt d i).2 (adM l s xs k d i) i) rfl (fun i hi => ?_) ?_
      · refine q_impl_AheadOf_L0 _ _ _ _ _ _ _ _ _ _ _ _ _ _ _ _ _ _ _ _ _ ?_
        have hm := Nat.mod_lt (k + i) (show xs.length > 0 by omega)
        rw [wrap64_id (n := (k : Int) + i) (by omega) (by omega), show (k : Int) + i = (k + i : Nat) by omega, tmod_nat]
        have e : adM l s xs k d (i + 1) = adM l s xs k d i ++ [fadd .f32 (fadd .f32 l (fmul .f32 (adAt d i).1 s)) (xs.getD ((k + i) % xs.length) 0)] := tab_succ _ _
        have al := ad_len l s xs k d i
        rw [e, show adAt d (i + 1) = (fadd .f32 (adAt d i).1 (fmul .f32 (adAt d i).2 d), fmul .f32 (adAt d i).2 d) from rfl]
        repeat' (first | with_reducible refine T.ok_ob ?_ (fun _ => ?_) | with_reducible refine T.ok_ite (fun _ => ?_) (fun _ => ?_) | with_reducible refine T.ok_leaf ?_)
        all_goals (try simp only [decide_eq_true_eq, decide_eq_false_iff_not, Bool.not_eq_true', Bool.not_eq_false', Bool.not_eq_eq_eq_not, Bool.not_true, Bool.not_false, Int.toNat_natCast, tab_len, List.length_append, List.length_singleton, List.length_cons, List.length_nil, List.length_drop, List.length_take, getD_drop', getD_nat, reduceCtorEq] at *)
        all_goals (try simp (disch := omega) only [wrap64_id] at *)
        all_goals first | omega | (exfalso; omega) | trivial | contradiction | (exfalso; simp_all; done) | skip
        all_goals rfl
      · refine q_impl_AheadOf_L0 _ _ _ _ _ _ _ _ _ _ _ _ _ _ _ _ _ _ _ _ _ ?_
        repeat' (first | with_reducible refine T.ok_ob ?_ (fun _ => ?_) | with_reducible refine T.ok_ite (fun _ => ?_) (fun _ => ?_) | with_reducible refine T.ok_leaf ?_)
        all_goals (try simp only [decide_eq_true_eq, decide_eq_false_iff_not, Bool.not_eq_true', Bool.not_eq_false', Bool.not_eq_eq_eq_not, Bool.not_true, Bool.not_false, Int.toNat_natCast, tab_len, List.length_append, List.length_singleton, List.length_cons, List.length_nil, List.length_drop, List.length_take, getD_drop', getD_nat, reduceCtorEq] at *)
        all_goals (try simp (disch := omega) only [wrap64_id] at *)
        all_goals first | omega | (exfalso; omega) | trivial | contradiction | (exfalso; simp_all; done) | skip
        all_goals rfl
    · have : adOk l s xs k a b c d m = finAllM (adM l s xs k d m) := by simp [adOk, h0, h1, h2]
      simp only [T.ok, this, ifAllM]
theorem k_spec_AheadOf {P : Program} {f g1 g2 g3 : FuncId} (h : Is_spec_AheadOf P f g1 g2 g3) (c1 : C_spec_l04Can P g1) (c2 : C_spec_l00In P g2) (c3 : C_spec_l02List P g3) : C_spec_AheadOf P f := by
  intro l s xs t a b c d n hx
  refine q_spec_AheadOf h l s xs t a b c d n ⟨rfl, fun _ => ⟨rfl, fun _ => ⟨c1 _ _ _ _ _ _ _ _ hx, fun _ => ⟨fun h0 => ?_, fun h0 => ⟨c2 _ _ _, fun _ => ⟨fun h1 => ?_, fun h1 => ?_⟩⟩⟩⟩⟩⟩
  · have : adOk l s xs t a b c d n = false := by
      unfold adOk
      revert h0
      cases validStateM l s xs t <;> cases sharesM a b c d <;> simp
    simp [T.ok, this]
  · simp at h1; simp [T.ok, adOk, h1]
  · simp at h0 h1
    have hv := valid_at h0.1
    have hn : 1 ≤ n ∧ n ≤ 32 := by simpa [inM] using h1
    obtain ⟨m, rfl⟩ : ∃ m : Nat, n = m := ⟨n.toNat, by omega⟩
    obtain ⟨k, rfl⟩ : ∃ k : Nat, t = k := ⟨t.toNat, by omega⟩
    rw [Int.toNat_natCast]
    have al := ad_len l s xs k d m
    refine ⟨?_, fun _ => ⟨c3 _ (by rw [al, maxLen_eq]; omega), fun _ => ?_⟩⟩
    · refine for_up (e := .exit 0) m (fun i => h_spec_AheadOf_L0 l s xs k a b c d m l s xs k a b c d (adM l s xs k d i) (adAt d i).1 (adAt d i).2 i) rfl (fun i hi => ?_) ?_
      · refine q_spec_AheadOf_L0 _ _ _ _ _ _ _ _ _ _ _ _ _ _ _ _ _ _ _ _ _ ?_
        have hm := Nat.mod_lt (k + i) (show xs.length > 0 by omega)
        rw [wrap64_id (n := (k : Int) + i) (by omega) (by omega), show (k : Int) + i = (k + i : Nat) by omega, tmod_nat]
        have e : adM l s xs k d (i + 1) = adM l s xs k d i ++ [fadd .f32 (fadd .f32 l (fmul .f32 (adAt d i).1 s)) (xs.getD ((k + i) % xs.length) 0)] := tab_succ _ _
        have al := ad_len l s xs k d i
        rw [e, show adAt d (i + 1) = (fadd .f32 (adAt d i).1 (fmul .f32 (adAt d i).2 d), fmul .f32 (adAt d i).2 d) from rfl]
        repeat' (first | with_reducible refine T.ok_ob ?_ (fun _ => ?_) | with_reducible refine T.ok_ite (fun _ => ?_) (fun _ => ?_) | with_reducible refine T.ok_leaf ?_)
        all_goals (try simp only [decide_eq_true_eq, decide_eq_false_iff_not, Bool.not_eq_true', Bool.not_eq_false', Bool.not_eq_eq_eq_not, Bool.not_true, Bool.not_false, Int.toNat_natCast, tab_len, List.length_append, List.length_singleton, List.length_cons, List.length_nil, List.length_drop, List.length_take, getD_drop', getD_nat, reduceCtorEq] at *)
        all_goals (try simp (disch := omega) only [wrap64_id] at *)
        all_goals first | omega | (exfalso; omega) | trivial | contradiction | (exfalso; simp_all; done) | skip
        all_goals rfl
      · refine q_spec_AheadOf_L0 _ _ _ _ _ _ _ _ _ _ _ _ _ _ _ _ _ _ _ _ _ ?_
        repeat' (first | with_reducible refine T.ok_ob ?_ (fun _ => ?_) | with_reducible refine T.ok_ite (fun _ => ?_) (fun _ => ?_) | with_reducible refine T.ok_leaf ?_)
        all_goals (try simp only [decide_eq_true_eq, decide_eq_false_iff_not, Bool.not_eq_true', Bool.not_eq_false', Bool.not_eq_eq_eq_not, Bool.not_true, Bool.not_false, Int.toNat_natCast, tab_len, List.length_append, List.length_singleton, List.length_cons, List.length_nil, List.length_drop, List.length_take, getD_drop', getD_nat, reduceCtorEq] at *)
        all_goals (try simp (disch := omega) only [wrap64_id] at *)
        all_goals first | omega | (exfalso; omega) | trivial | contradiction | (exfalso; simp_all; done) | skip
        all_goals rfl
    · have : adOk l s xs k a b c d m = finAllM (adM l s xs k d m) := by simp [adOk, h0, h1]
      simp only [T.ok, this, ifAllM]
end Go.Proofs.LV
