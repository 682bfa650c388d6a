/- Operations that may change places: names, and the swap. -/
import Derived.Test.YtdffgjembkanoaaLvReg
import Derived.Orders
namespace Go.Proofs.LV
open Go Go.RowKit
set_option linter.unusedVariables false
set_option linter.unusedSimpArgs false

/-! ## which operations may change places -/
def VStep.reads (s : VStep) : List Nat := (s.opds.filterMap fun o => match o with | .t n => some n | .k _ => none) ++ (match s.guard with | some (j, _) => [j] | none => [])
def K.special : K → Bool
  | .store => true
  | .storeN _ => true
  | .app => true
  | .copy => true
  | _ => false
/-- it must stand in its place -/
def VStep.fixed (s : VStep) : Bool := s.kd.special || s.dst.isNone
/-- the names that it may make -/
def VStep.names (s : VStep) : List Nat :=
  match s.kd with
  | .alloc _ => [8 * s.dst.getD 0]
  | .box => [8 * s.dst.getD 0]
  | .boxN => [8 * s.dst.getD 0]
  | .lit _ _ => [8 * s.dst.getD 0]
  | .app => [8 * s.dst.getD 0]
  | .arr => [8 * s.dst.getD 0]
  | .mksl _ => [8 * s.dst.getD 0]
  | .call _ => callNames (s.dst.getD 0)
  | .callv => callNames (s.dst.getD 0)
  | _ => []
/-- a value that speaks of no object -/
def AV.plain : AV → Bool
  | .b _ => true
  | .i _ _ => true
  | .f _ _ => true
  | .c _ _ _ => true
  | .sl .imm _ _ => true
  | .sl .nil _ _ => true
  | .fn _ [] => true
  | _ => false
def VStep.clean (s : VStep) : Bool :=
  (match s.kd with | .alloc cells => cells.all AV.plain | .build cells _ => cells.all AV.plain | _ => true) && s.opds.all fun o => match o with | .t _ => true | .k v => v.plain
/-- it only hands on or reckons: a store beside it does it no harm -/
def K.light : K → Bool
  | .mv => true
  | .bin _ => true
  | .extract _ => true
  | _ => false
def K.stores : K → Bool
  | .store => true
  | .storeN _ => true
  | .copy => true
  | _ => false
def freeSwap (x y : VStep) : Bool :=
  !x.fixed && !y.fixed && !(x.dst == y.dst) && x.reads.all (fun n => !(y.dst == some n)) && y.reads.all (fun n => !(x.dst == some n))
/-- x reckons, y stores -/
def storeSwap (x y : VStep) : Bool :=
  x.kd.light && y.kd.stores && x.guard.isNone && y.guard.isNone && !(x.dst == y.dst) && x.reads.all (fun n => !(y.dst == some n)) && !x.dst.isNone && y.reads.all (fun n => !(x.dst == some n))
/-- it fails where an operand is not told -/
def K.strict : K → Bool
  | .bin _ => true
  | .iaddr => true
  | .load => true
  | .lit _ _ => true
  | _ => false
def K.isApp : K → Bool
  | .app => true
  | _ => false
/-- x appends, y hands on or reckons -/
def appSwap (x y : VStep) : Bool :=
  x.kd.isApp && (y.kd.light || y.kd.strict) && !y.fixed && x.guard.isNone && y.guard.isNone && !x.dst.isNone && !(x.dst == y.dst) && x.reads.all (fun n => !(y.dst == some n)) && y.reads.all (fun n => !(x.dst == some n))
def swapOk (x y : VStep) : Bool := freeSwap x y || storeSwap x y || appSwap x y

theorem plain_has {v : AV} (h : v.plain = true) (n : Nat) : v.has n = false := by
  unfold AV.plain at h
  split at h <;> simp_all [AV.has, Tag.names, AV.hasL]

/-! ## names in results -/
theorem names_lt {s : VStep} {n : Nat} (h : n ∈ s.names) : 8 * s.dst.getD 0 ≤ n ∧ n < 8 * s.dst.getD 0 + 8 := by
  unfold VStep.names at h
  split at h <;> simp only [callNames, List.mem_cons, List.not_mem_nil, or_false] at h <;> omega

theorem hasL_mem {n : Nat} : ∀ {xs : List AV}, AV.hasL n xs = false → ∀ {x : AV}, x ∈ xs → x.has n = false
  | [], _, x, hx => by cases hx
  | y :: r, h, x, hx => by
    simp only [AV.hasL, Bool.or_eq_false_iff] at h
    rcases List.mem_cons.1 hx with rfl | hx
    · exact h.1
    · exact hasL_mem h.2 hx
theorem hasL_of {n : Nat} : ∀ {xs : List AV}, (∀ x, x ∈ xs → x.has n = false) → AV.hasL n xs = false
  | [], _ => rfl
  | y :: r, h => by simp [AV.hasL, h y (by simp), hasL_of (xs := r) (fun x hx => h x (by simp [hx]))]
theorem get_has (j : Nat) (xs : Cont) (n : Nat) : (xs.get j).has n = false := by cases xs <;> simp [Cont.get, AV.has, Tag.names]
theorem rowAt_has {m i n : Nat} {k : FloatKind} {xs : List Nat} {h : Option Nat} (hn : (m == n) = false) : (rowAt m i k xs h).has n = false := by
  cases h with
  | none => simpa [rowAt, AV.has, Tag.names] using hn
  | some _ => rfl

mutual
theorem back_has {d n : Nat} {args : List AV} (ha : AV.hasL n args = false) (hn : n ∉ callNames d) : ∀ (r : AV), (AV.back d args r).has n = false
  | .any => by simp [AV.back, AV.has]
  | .b _ => by simp [AV.back, AV.has]
  | .i _ _ => by simp [AV.back, AV.has]
  | .f _ _ => by simp [AV.back, AV.has]
  | .c _ _ _ => by simp [AV.back, AV.has]
  | .bx .nil _ => by simp [AV.back, AV.has]
  | .bx .imm _ => by simp [AV.back, AV.has]
  | .bx .ro _ => by simp [AV.back, AV.has]
  | .bx (.par _) _ => by simp [AV.back, AV.has]
  | .bx (.own j) cells => by
    simp only [AV.back]
    split
    · rename_i hj
      simp only [AV.has, Tag.names, Bool.or_eq_false_iff]
      have : n ≠ 8 * d + j := fun e => hn (by simp only [callNames, List.mem_cons, List.not_mem_nil, or_false]; omega)
      refine ⟨by simp; exact fun e => this e.symm, backL_has ha hn cells⟩
    · simp [AV.has]
  | .bx (.row _ _) _ => by simp [AV.back, AV.has]
  | .sl (.row _ _) _ _ => by simp [AV.back, AV.has]
  | .na _ _ _ _ _ => by simp [AV.back, AV.has]
  | .nw j lo k xss hh => by
    simp only [AV.back]
    split
    · rename_i hj
      have : n ≠ 8 * d + j := fun e => hn (by simp only [callNames, List.mem_cons, List.not_mem_nil, or_false]; omega)
      simp only [AV.has]; simp; exact fun e => this e.symm
    · simp [AV.has]
  | .sl .ro off xs => by simp [AV.back, AV.has]
  | .ad _ _ _ => by simp [AV.back, AV.has]
  | .fn _ _ => by simp [AV.back, AV.has]
  | .agg cells => by simp only [AV.back, AV.has]; exact backL_has ha hn cells
  | .tup cells => by simp only [AV.back, AV.has]; exact backL_has ha hn cells
  | .sl .nil off xs => by simp [AV.back, AV.has, Tag.names]
  | .sl .imm off xs => by simp [AV.back, AV.has, Tag.names]
  | .sl (.own j) off xs => by
    simp only [AV.back]
    split
    · rename_i hj
      simp only [AV.has, Tag.names]
      have : n ≠ 8 * d + j := fun e => hn (by simp only [callNames, List.mem_cons, List.not_mem_nil, or_false]; omega)
      simp; exact fun e => this e.symm
    · simp [AV.has]
  | .sl (.par p) off xs => by
    simp only [AV.back]
    split
    · rename_i g o hto
      simp only [AV.has]
      cases hg : g.names n with
      | false => rfl
      | true =>
        have := sel_has p (.tup args) g o hto n hg
        simp only [AV.has] at this
        rw [ha] at this; cases this
    · simp [AV.has]
theorem backL_has {d n : Nat} {args : List AV} (ha : AV.hasL n args = false) (hn : n ∉ callNames d) : ∀ (r : List AV), AV.hasL n (AV.backL d args r) = false
  | [] => by simp [AV.backL, AV.hasL]
  | x :: r => by simp [AV.backL, AV.hasL, back_has ha hn x, backL_has ha hn r]
end

theorem bin_has {op : BinOp} {x y v : AV} {o : Prop} (h : bin op x y = some (v, o)) (n : Nat) : v.has n = false := by
  unfold bin at h
  split at h <;> first | (simp at h; done) | (split at h <;> cases h; rfl) | (cases h; rfl) | cases h

theorem hasL_set {n : Nat} {x : AV} : ∀ {z : List AV} {i : Nat}, AV.hasL n z = false → x.has n = false → AV.hasL n (z.set i x) = false
  | [], _, h, _ => h
  | y :: r, 0, h, hx => by
    simp only [AV.hasL, Bool.or_eq_false_iff] at h
    simp [AV.hasL, hx, h.2]
  | y :: r, i + 1, h, hx => by
    simp only [AV.hasL, Bool.or_eq_false_iff] at h
    simp only [List.set_cons_succ, AV.hasL, h.1, Bool.false_or]
    exact hasL_set h.2 hx
theorem evalK_has {d : Nat} {k : K} {xs : List AV} {v : AV} {ns : List Nat} {o : Prop} {n : Nat} (hk : k.special = false) (he : evalK d k xs = some (v, ns, o)) (hx : AV.hasL n xs = false)
    (ha : ∀ cells, k = .alloc cells → AV.hasL n cells = false) (hb : ∀ z pos, k = .build z pos → AV.hasL n z = false) (hn : n ∉ ns) : v.has n = false := by
  cases k <;> simp only [K.special] at hk <;> (try cases hk) <;> simp only [evalK] at he <;> (try cases he)
  case mv => unfold eMv at he; split at he <;> cases he; simpa [AV.hasL] using hx
  case pick =>
    unfold ePick at he; split at he <;> cases he
    simp only [AV.hasL, Bool.or_eq_false_iff] at hx
    rename_i c x y
    cases c
    · exact hx.2.2.1
    · exact hx.2.1
  case bin op => unfold eBin at he; split at he <;> (try cases he); split at he <;> cases he; rename_i hb; exact bin_has hb n
  case binb op =>
    unfold eBinb at he; split at he <;> (try cases he); split at he <;> cases he
    rename_i hb; unfold binb at hb; split at hb <;> cases hb <;> rfl
  case not => unfold eNot at he; split at he <;> cases he; rfl
  case neg => unfold eNeg at he; split at he <;> cases he <;> rfl
  case convI => unfold eConvI at he; split at he <;> cases he <;> rfl
  case convF => unfold eConvF at he; split at he <;> cases he <;> rfl
  case convC => unfold eConvC at he; split at he <;> cases he; rfl
  case iaddr =>
    unfold eIaddr at he; split at he <;> cases he
    · simp only [AV.hasL, AV.has, Bool.or_eq_false_iff] at hx
      simp [AV.has, hx.1, get_has]
    · simp only [AV.hasL, AV.has, Bool.or_eq_false_iff] at hx
      simp only [AV.has, hx.1, Bool.false_or]
      exact rowAt_has hx.1
  case faddr =>
    unfold eFaddr at he; split at he <;> (try cases he); split at he <;> cases he
    rename_i x hcx
    simp only [AV.hasL, AV.has, Bool.or_eq_false_iff] at hx
    simp only [AV.has, hx.1.1, Bool.false_or]
    exact hasL_mem hx.1.2 (List.mem_of_getElem? hcx)
  case load =>
    unfold eLoad at he; split at he <;> cases he
    · simp only [AV.hasL, AV.has, Bool.or_eq_false_iff] at hx; exact hx.1.2
    · simp only [AV.hasL, AV.has, Bool.or_eq_false_iff] at hx; exact hx.1.2
    · simp only [AV.hasL, AV.has, Bool.or_eq_false_iff] at hx; exact hx.1.2.1
  case loadN =>
    unfold eLoadN at he; split at he <;> (try cases he); split at he <;> cases he
    simp only [AV.hasL, AV.has, Bool.or_eq_false_iff] at hx; simp only [AV.has]; exact hx.1.2
  case alloc cells =>
    unfold eAlloc at he; split at he <;> cases he
    simp only [AV.has, Tag.names, ha cells rfl, Bool.or_false]
    simp at hn ⊢; exact fun e => hn e.symm
  case box =>
    unfold eBox at he; split at he <;> (try cases he); split at he <;> cases he
    simp only [AV.hasL, Bool.or_false] at hx
    simp only [AV.has, Tag.names, AV.hasL, hx, Bool.or_false]
    simp at hn ⊢; exact fun e => hn e.symm
  case boxN =>
    unfold eBoxN at he; split at he <;> cases he
    simp only [AV.hasL, AV.has, Bool.or_false] at hx
    simp only [AV.has, Tag.names, hx, Bool.or_false]
    simp at hn ⊢; exact fun e => hn e.symm
  case lit own e =>
    unfold eLit at he
    split at he
    · split at he <;> cases he
      simp at hn; simp only [AV.has]; simp; exact fun e => hn e.symm
    · split at he <;> cases he
      cases own
      · simp [AV.has, Tag.names]
      · simp at hn ⊢; simp only [AV.has, Tag.names]; simp; exact fun e => hn e.symm
  case nilsl =>
    unfold eNilsl at he; split at he <;> cases he
    simp [AV.has, Tag.names]
  case mksl =>
    unfold eMksl at he
    split at he
    · split at he
      · cases he
        simp at hn; simp [AV.has]; exact fun e => hn e.symm
      · split at he <;> cases he
        simp at hn; simp [AV.has, Tag.names]; exact fun e => hn e.symm
    · cases he
  case len => unfold eLen at he; split at he <;> cases he <;> rfl
  case arr =>
    unfold eAppn at he; split at he
    · (repeat' split at he) <;> cases he
      simp at hn; simp [AV.has, Tag.names]; exact fun e => hn e.symm
    · cases he
  case slice a b c =>
    unfold eSlice at he
    split at he <;> cases he <;> (simp only [AV.hasL, AV.has, Bool.or_eq_false_iff] at hx; first | (simp [AV.has, hx.1]; done) | simp [AV.has, Tag.names])
  case extract =>
    unfold eExtract at he; split at he <;> (try cases he); split at he <;> cases he
    rename_i x hcx
    simp only [AV.hasL, AV.has, Bool.or_false] at hx
    exact hasL_mem hx (List.mem_of_getElem? hcx)
  case nilck => unfold eNilck at he; split at he <;> cases he; simpa [AV.hasL] using hx
  case aidx =>
    unfold eAidx at he
    split at he
    · split at he
      · split at he <;> cases he
        exact get_has _ _ _
      · cases he
    · cases he
  case max => unfold eMax at he; split at he <;> (try cases he) <;> split at he <;> cases he <;> rfl
  case min => unfold eMin at he; split at he <;> (try cases he) <;> split at he <;> cases he <;> rfl
  case cplx => unfold eCplx at he; split at he <;> (try cases he); split at he <;> cases he; rfl
  case re => unfold eRe at he; split at he <;> cases he; rfl
  case im => unfold eIm at he; split at he <;> cases he; rfl
  case mkfn => simpa [AV.has] using hx
  case isnil => unfold eIsnil at he; split at he <;> cases he; rfl
  case build z pos =>
    unfold eBuild at he; split at he <;> cases he
    simp only [AV.has]
    have gen : ∀ (pos : List Nat) (z xs : List AV), AV.hasL n z = false → AV.hasL n xs = false → AV.hasL n (setAll z pos xs) = false := by
      intro pos
      induction pos with
      | nil => intro z xs hz _; cases xs <;> exact hz
      | cons i is ih =>
        intro z xs hz hxs
        cases xs with
        | nil => exact hz
        | cons x r =>
          simp only [AV.hasL, Bool.or_eq_false_iff] at hxs
          exact ih _ _ (hasL_set hz hxs.1) hxs.2
    exact gen _ _ _ (hb z pos rfl) hx

theorem evalK_names {d : Nat} {s : VStep} (hd : s.dst.getD 0 = d) {xs : List AV} {v : AV} {ns : List Nat} {o : Prop} (hk : s.kd.special = false) (he : evalK d s.kd xs = some (v, ns, o)) : ∀ n, n ∈ ns → n ∈ s.names := by
  intro n hn
  unfold VStep.names
  generalize s.kd = k at *
  cases k <;> simp only [K.special] at hk <;> (try cases hk) <;> simp only [evalK] at he <;> (try cases he)
  case mv => unfold eMv at he; split at he <;> cases he; exact hn
  case pick => unfold ePick at he; split at he <;> cases he; exact hn
  case bin op => unfold eBin at he; split at he <;> (try cases he); split at he <;> cases he; exact hn
  case binb op => unfold eBinb at he; split at he <;> (try cases he); split at he <;> cases he; exact hn
  case not => unfold eNot at he; split at he <;> cases he; exact hn
  case neg => unfold eNeg at he; split at he <;> cases he <;> exact hn
  case convI => unfold eConvI at he; split at he <;> cases he <;> exact hn
  case convF => unfold eConvF at he; split at he <;> cases he <;> exact hn
  case convC => unfold eConvC at he; split at he <;> cases he; exact hn
  case iaddr => unfold eIaddr at he; split at he <;> cases he <;> exact hn
  case faddr => unfold eFaddr at he; split at he <;> (try cases he); split at he <;> cases he; exact hn
  case load => unfold eLoad at he; split at he <;> cases he <;> exact hn
  case loadN => unfold eLoadN at he; split at he <;> (try cases he); split at he <;> cases he; exact hn
  case alloc cells => unfold eAlloc at he; split at he <;> cases he; simpa [hd] using hn
  case box => unfold eBox at he; split at he <;> (try cases he); split at he <;> cases he; simpa [hd] using hn
  case boxN => unfold eBoxN at he; split at he <;> cases he; simpa [hd] using hn
  case lit own e =>
    unfold eLit at he
    split at he
    · split at he <;> cases he
      simpa [hd] using hn
    · split at he <;> cases he
      cases own <;> simp_all
  case nilsl => unfold eNilsl at he; split at he <;> cases he; exact hn
  case mksl =>
    unfold eMksl at he
    split at he
    · split at he
      · cases he; simpa [hd] using hn
      · split at he <;> cases he
        simpa [hd] using hn
    · cases he
  case len => unfold eLen at he; split at he <;> cases he <;> exact hn
  case arr =>
    unfold eAppn at he; split at he
    · (repeat' split at he) <;> cases he
      simpa [hd] using hn
    · cases he
  case slice a b c => unfold eSlice at he; split at he <;> cases he <;> exact hn
  case extract => unfold eExtract at he; split at he <;> (try cases he); split at he <;> cases he; exact hn
  case nilck => unfold eNilck at he; split at he <;> cases he; exact hn
  case aidx =>
    unfold eAidx at he
    split at he
    · split at he
      · split at he <;> cases he
        exact hn
      · cases he
    · cases he
  case max => unfold eMax at he; split at he <;> (try cases he) <;> split at he <;> cases he <;> exact hn
  case min => unfold eMin at he; split at he <;> (try cases he) <;> split at he <;> cases he <;> exact hn
  case cplx => unfold eCplx at he; split at he <;> (try cases he); split at he <;> cases he; exact hn
  case re => unfold eRe at he; split at he <;> cases he; exact hn
  case im => unfold eIm at he; split at he <;> cases he; exact hn
  case mkfn => exact hn
  case isnil => unfold eIsnil at he; split at he <;> cases he; exact hn
  case build => unfold eBuild at he; split at he <;> cases he; exact hn
/-! ## the operation, as a function of what it reads -/
def coreV (VC : FuncId → List AV → AV → Prop) (s : VStep) (r : AV) (vs : List AV) : Out :=
  match s.kd, vs with
  | .call f, vs => evalCall VC (s.dst.getD 0) r f vs
  | .callv, .fn f caps :: vs => evalCall VC (s.dst.getD 0) r f (vs ++ caps)
  | kd, vs => evalK (s.dst.getD 0) kd vs
def evalS (VC : FuncId → List AV → AV → Prop) (s : VStep) (r : AV) (σ : Env) : Out :=
  match s.guard with
  | none => coreV VC s r (s.opds.map σ.ev)
  | some (j, want) => match σ.getD j .any with
    | .b x => bif x == want then coreV VC s r (s.opds.map σ.ev) else some (.tup [], [], True)
    | .tup [] => some (.tup [], [], True)
    | _ => none

theorem stepW_core {VC : FuncId → List AV → AV → Prop} {s : VStep} {r : AV} {σ : Env} (hk : s.kd.special = false) :
    stepW VC s r σ = match coreV VC s r (s.opds.map σ.ev) with | some (v, ns, o) => some ((σ.scrubs ns).put s.dst v, o) | none => none := by
  unfold stepW coreV
  generalize s.kd = k at hk ⊢
  generalize s.opds.map σ.ev = vs
  cases k <;> simp only [K.special] at hk <;> (try cases hk)
  case callv =>
    cases vs with
    | nil => rfl
    | cons x xs => cases x <;> rfl
  all_goals rfl

theorem stepE_evalS {VC : FuncId → List AV → AV → Prop} {s : VStep} {r : AV} {σ : Env} (hk : s.kd.special = false) :
    stepE VC s r σ = match evalS VC s r σ with | some (v, ns, o) => some ((σ.scrubs ns).put s.dst v, o) | none => none := by
  have hc := stepW_core (VC := VC) (r := r) (σ := σ) hk
  unfold stepE evalS
  cases s.guard with
  | none => exact hc
  | some p =>
    obtain ⟨j, want⟩ := p
    simp only
    cases σ.getD j .any with
    | b x =>
      simp only
      cases hx : (x == want) with
      | true => exact hc
      | false => rfl
    | tup xs => cases xs <;> rfl
    | _ => rfl

theorem evalS_congr {VC : FuncId → List AV → AV → Prop} {s : VStep} {r : AV} {σ τ : Env} (h : ∀ n, n ∈ s.reads → σ.getD n .any = τ.getD n .any) : evalS VC s r σ = evalS VC s r τ := by
  have ho : s.opds.map σ.ev = s.opds.map τ.ev := by
    apply List.map_congr_left
    intro o hoo
    cases o with
    | k v => rfl
    | t n =>
      refine h n ?_
      unfold VStep.reads
      refine List.mem_append_left _ (List.mem_filterMap.2 ⟨.t n, hoo, rfl⟩)
  unfold evalS
  rw [ho]
  split
  · rfl
  · rename_i j want hg
    rw [h j (by unfold VStep.reads; rw [hg]; simp)]

theorem coreV_has {VC : FuncId → List AV → AV → Prop} {s : VStep} {r : AV} {vs : List AV} {v : AV} {ns : List Nat} {o : Prop} {n : Nat} (hk : s.kd.special = false) (hc : s.clean = true)
    (he : coreV VC s r vs = some (v, ns, o)) (hx : AV.hasL n vs = false) (hn : n ∉ s.names) : v.has n = false := by
  have call : ∀ f xs, evalCall VC (s.dst.getD 0) r f xs = some (v, ns, o) → AV.hasL n xs = false → n ∉ callNames (s.dst.getD 0) → v.has n = false := by
    intro f xs he hx hn
    unfold evalCall at he
    split at he <;> cases he
    exact back_has hx hn r
  have happ : ∀ {xs ys : List AV}, AV.hasL n xs = false → AV.hasL n ys = false → AV.hasL n (xs ++ ys) = false := by
    intro xs ys h1 h2
    refine hasL_of fun x hx => ?_
    rcases List.mem_append.1 hx with h | h
    · exact hasL_mem h1 h
    · exact hasL_mem h2 h
  have hcl : ∀ cells, s.kd = .alloc cells → AV.hasL n cells = false := by
    intro cells hkd
    unfold VStep.clean at hc
    simp only [hkd, Bool.and_eq_true, List.all_eq_true] at hc
    exact hasL_of fun x hx => plain_has (hc.1 x hx) n
  have hbl : ∀ cells pos, s.kd = .build cells pos → AV.hasL n cells = false := by
    intro cells pos hkd
    unfold VStep.clean at hc
    simp only [hkd, Bool.and_eq_true, List.all_eq_true] at hc
    exact hasL_of fun x hx => plain_has (hc.1 x hx) n
  unfold coreV at he
  split at he
  · rename_i vs0 _ _ f hkd
    exact call f vs0 he hx (by unfold VStep.names at hn; rw [hkd] at hn; exact hn)
  · rename_i f caps vs' hkd
    simp only [AV.hasL, AV.has, Bool.or_eq_false_iff] at hx
    exact call f _ he (happ hx.2 hx.1) (by unfold VStep.names at hn; rw [hkd] at hn; exact hn)
  · exact evalK_has hk he hx hcl hbl (fun h => hn (evalK_names rfl hk he n h))

theorem coreV_names {VC : FuncId → List AV → AV → Prop} {s : VStep} {r : AV} {vs : List AV} {v : AV} {ns : List Nat} {o : Prop} (hk : s.kd.special = false)
    (he : coreV VC s r vs = some (v, ns, o)) : ∀ n, n ∈ ns → n ∈ s.names := by
  have call : ∀ f xs, evalCall VC (s.dst.getD 0) r f xs = some (v, ns, o) → ns = callNames (s.dst.getD 0) := by
    intro f xs he
    unfold evalCall at he
    split at he <;> cases he
    rfl
  unfold coreV at he
  split at he
  · rename_i vs0 _ _ f hkd
    rw [call f vs0 he]; intro n hn; unfold VStep.names; rw [hkd]; exact hn
  · rename_i f caps vs' hkd
    rw [call f _ he]; intro n hn; unfold VStep.names; rw [hkd]; exact hn
  · exact evalK_names rfl hk he

theorem opds_has {s : VStep} {σ : Env} {n : Nat} (hc : s.clean = true) (hσ : ∀ j, (σ.getD j .any).has n = false) : AV.hasL n (s.opds.map σ.ev) = false := by
  refine hasL_of fun x hx => ?_
  obtain ⟨o, ho, rfl⟩ := List.mem_map.1 hx
  cases o with
  | t m => exact hσ m
  | k v =>
    unfold VStep.clean at hc
    simp only [Bool.and_eq_true, List.all_eq_true] at hc
    exact plain_has (hc.2 _ ho) n

theorem evalS_has {VC : FuncId → List AV → AV → Prop} {s : VStep} {r : AV} {σ : Env} {v : AV} {ns : List Nat} {o : Prop} {n : Nat} (hk : s.kd.special = false) (hc : s.clean = true)
    (he : evalS VC s r σ = some (v, ns, o)) (hσ : ∀ j, (σ.getD j .any).has n = false) (hn : n ∉ s.names) : v.has n = false := by
  unfold evalS at he
  split at he
  · exact coreV_has hk hc he (opds_has hc hσ) hn
  · split at he
    · rename_i x _
      cases hx : (x == _) with
      | true => rw [hx] at he; exact coreV_has hk hc he (opds_has hc hσ) hn
      | false => rw [hx] at he; cases he; rfl
    · cases he; rfl
    · cases he
theorem evalS_names {VC : FuncId → List AV → AV → Prop} {s : VStep} {r : AV} {σ : Env} {v : AV} {ns : List Nat} {o : Prop} (hk : s.kd.special = false)
    (he : evalS VC s r σ = some (v, ns, o)) : ∀ n, n ∈ ns → n ∈ s.names := by
  unfold evalS at he
  split at he
  · exact coreV_names hk he
  · split at he
    · rename_i x _
      cases hx : (x == _) with
      | true => rw [hx] at he; exact coreV_names hk he
      | false => rw [hx] at he; cases he; intro n hn; cases hn
    · cases he; intro n hn; cases hn
    · cases he

theorem scrub_none {σ : Env} {n : Nat} (h : ∀ j, (σ.getD j .any).has n = false) : σ.scrub n = σ := by
  unfold Env.scrub
  apply List.ext_getElem?
  intro i
  rw [List.getElem?_map]
  cases hi : σ[i]? with
  | none => rfl
  | some v =>
    have := h i
    simp only [List.getD, hi, Option.getD_some] at this
    simp [this]
theorem scrubs_none : ∀ {ns : List Nat} {σ : Env}, (∀ n, n ∈ ns → ∀ j, (σ.getD j .any).has n = false) → σ.scrubs ns = σ
  | [], σ, _ => rfl
  | n :: r, σ, h => by
    show (σ.scrub n).scrubs r = σ
    rw [scrub_none (h n (by simp))]
    exact scrubs_none fun m hm => h m (by simp [hm])
theorem put_get {σ : Env} {d : Option Nat} {v : AV} {n j : Nat} (hσ : ∀ j, (σ.getD j .any).has n = false) (hv : v.has n = false) : ((σ.put d v).getD j .any).has n = false := by
  cases d with
  | none => exact hσ j
  | some d =>
    simp only [Env.put, List.getD, List.getElem?_set]
    by_cases hd : d = j
    · subst hd
      simp only [if_true]
      split
      · exact hv
      · rfl
    · simp only [if_neg hd]; exact hσ j
theorem put_ne {σ : Env} {d : Option Nat} {v : AV} {j : Nat} (h : d ≠ some j) : (σ.put d v).getD j .any = σ.getD j .any := by
  cases d with
  | none => rfl
  | some d =>
    simp only [Env.put, List.getD]
    rw [List.getElem?_set_ne (fun e => h (by rw [e]))]

/-! ## runs -/
/-- the operations, one behind the other, lead to Q -/
def RunTo (St : VStep → AV → Env → Option (Env × Prop)) : List (VStep × AV) → Env → (Env → Prop) → Prop
  | [], σ, Q => Q σ
  | (s, r) :: l, σ, Q => ∃ σ' o, St s r σ = some (σ', o) ∧ o ∧ RunTo St l σ' Q

/-- what will be made is not spoken of yet -/
def Fresh (s : VStep) (σ : Env) : Prop := ∀ n, n ∈ s.names → ∀ j, (σ.getD j .any).has n = false

theorem names_apart {x y : VStep} (h : x.dst ≠ y.dst) (hx : x.dst.isNone = false) (hy : y.dst.isNone = false) {n : Nat} (h1 : n ∈ x.names) (h2 : n ∈ y.names) : False := by
  have a := names_lt h1
  have b := names_lt h2
  cases hd : x.dst with
  | none => rw [hd] at hx; cases hx
  | some d =>
    cases he : y.dst with
    | none => rw [he] at hy; cases hy
    | some e =>
      rw [hd] at a; rw [he] at b
      simp only [Option.getD_some] at a b
      exact h (by rw [hd, he]; congr 1; omega)

theorem swap_free {VC : FuncId → List AV → AV → Prop} {St : VStep → AV → Env → Option (Env × Prop)} {x y : VStep} {rx ry : AV} {l : List (VStep × AV)} {σ : Env} {Q : Env → Prop} (Ex : ∀ τ, St x rx τ = stepE VC x rx τ) (Ey : ∀ τ, St y ry τ = stepE VC y ry τ) (hs : freeSwap x y = true) (cx : x.clean = true) (cy : y.clean = true)
    (fx : Fresh x σ) (fy : Fresh y σ) (h : RunTo St ((x, rx) :: (y, ry) :: l) σ Q) : RunTo St ((y, ry) :: (x, rx) :: l) σ Q := by
  unfold freeSwap at hs
  simp only [Bool.and_eq_true, Bool.not_eq_true', List.all_eq_true, VStep.fixed, Bool.or_eq_false_iff, beq_eq_false_iff_ne, ne_eq] at hs
  obtain ⟨⟨⟨⟨⟨kx, dx⟩, ky, dy⟩, hne⟩, hrx⟩, hry⟩ := hs
  obtain ⟨σ1, ox, h1, hox, σ2, oy, h2, hoy, h3⟩ := h
  rw [Ex] at h1
  rw [Ey] at h2
  rw [stepE_evalS kx] at h1
  rw [stepE_evalS ky] at h2
  split at h1 <;> cases h1
  rename_i vx nsx hex
  split at h2 <;> cases h2
  rename_i vy nsy hey
  have sx : σ.scrubs nsx = σ := scrubs_none fun n hn => fx n (evalS_names kx hex n hn)
  rw [sx] at h3 hey
  have hvx : ∀ n, n ∈ y.names → vx.has n = false := fun n hn => evalS_has kx cx hex (fy n hn) (fun h => names_apart hne dx dy h hn)
  have ey : evalS VC y ry σ = some (vy, nsy, oy) := by
    rw [← hey]
    exact evalS_congr fun n hn => (put_ne (fun e => hry n hn e)).symm
  have sy1 : (σ.put x.dst vx).scrubs nsy = σ.put x.dst vx := scrubs_none fun n hn j => put_get (fy n (evalS_names ky ey n hn)) (hvx n (evalS_names ky ey n hn))
  have sy : σ.scrubs nsy = σ := scrubs_none fun n hn => fy n (evalS_names ky ey n hn)
  have hvy : ∀ n, n ∈ x.names → vy.has n = false := fun n hn => evalS_has ky cy ey (fx n hn) (fun h => names_apart hne dx dy hn h)
  have ex : evalS VC x rx (σ.put y.dst vy) = some (vx, nsx, ox) := by
    rw [← hex]
    exact evalS_congr fun n hn => put_ne (fun e => hrx n hn e)
  have sx1 : (σ.put y.dst vy).scrubs nsx = σ.put y.dst vy := scrubs_none fun n hn j => put_get (fx n (evalS_names kx hex n hn)) (hvy n (evalS_names kx hex n hn))
  rw [sy1] at h3
  refine ⟨σ.put y.dst vy, oy, by rw [Ey, stepE_evalS ky, ey]; simp only [sy], hoy, (σ.put y.dst vy).put x.dst vx, ox, by rw [Ex, stepE_evalS kx, ex]; simp only [sx1], hox, ?_⟩
  have comm : (σ.put y.dst vy).put x.dst vx = (σ.put x.dst vx).put y.dst vy := by
    cases hd : x.dst with
    | none => rfl
    | some d =>
      cases he : y.dst with
      | none => rfl
      | some e =>
        simp only [Env.put]
        rw [List.set_comm _ _ (fun h => hne (by rw [hd, he, h]))]
  rw [comm]; exact h3

/-! ### a store and what only reckons -/
/-- a change of values that leaves numbers alone -/
structure Upd (U : AV → AV) : Prop where
  any : U .any = .any
  plain : ∀ v : AV, v.plain = true → U v = v
  tup : ∀ xs, U (.tup xs) = .tup (xs.map U)
theorem updL_map (g : Tag) (j : Nat) (x : AV) : ∀ vs : List AV, AV.updL g j x vs = vs.map (AV.upd g j x)
  | [] => by simp [AV.updL]
  | v :: r => by simp [AV.updL, updL_map g j x r]
theorem Upd.one (n j : Nat) (x : AV) : Upd (AV.upd (.own n) j x) := by
  refine ⟨by simp [AV.upd], fun v hv => ?_, fun xs => by simp [AV.upd, updL_map]⟩
  unfold AV.plain at hv
  split at hv <;> simp_all [AV.upd, Tag.beq, AV.updL]
theorem Upd.comp {U V : AV → AV} (hU : Upd U) (hV : Upd V) : Upd (fun v => V (U v)) := by
  refine ⟨by rw [hU.any, hV.any], fun v hv => by rw [hU.plain v hv, hV.plain v hv], fun xs => ?_⟩
  simp only [hU.tup, hV.tup, List.map_map]; rfl
theorem Upd.id : Upd (fun v => v) := ⟨rfl, fun _ _ => rfl, fun xs => by simp⟩
theorem updN_map (n : Nat) : ∀ (xs : List AV) (j : Nat), ∃ U, Upd U ∧ ∀ σ : Env, σ.updN (.own n) j xs = σ.map U
  | [], j => ⟨fun v => v, Upd.id, fun σ => by simp [Env.updN]⟩
  | x :: r, j => by
    obtain ⟨U, hU, h⟩ := updN_map n r (j + 1)
    refine ⟨_, (Upd.one n j x).comp hU, fun σ => ?_⟩
    show Env.updN _ (j + 1) r (Env.upd _ j x σ) = _
    rw [h]
    simp only [Env.upd, updL_map, List.map_map]; rfl
theorem deepL_map (f : AV → AV) : ∀ xs : List AV, AV.deepL f xs = xs.map (AV.deep f)
  | [] => rfl
  | x :: r => by simp [AV.deepL, deepL_map f r]
theorem Upd.deep {f : AV → AV} (h0 : f .any = .any) (hp : ∀ v : AV, v.plain = true → f v = v) : Upd (AV.deep f) := by
  refine ⟨by simp [AV.deep, h0], fun v hv => ?_, fun xs => by simp [AV.deep, deepL_map]⟩
  have : AV.deep f v = f v := by
    cases v <;> first | rfl | (simp [AV.plain] at hv)
  rw [this]; exact hp v hv
theorem drop_plain {n : Nat} {v : AV} (hv : v.plain = true) : v.drop n = v := by unfold AV.drop; rw [plain_has hv]; rfl
theorem updR_plain {n i j x : Nat} {k : FloatKind} {v : AV} (hv : v.plain = true) : AV.updR n i j k x v = v := by
  unfold AV.updR
  split
  · simp [AV.plain] at hv
  · simp [AV.plain] at hv
  · exact drop_plain hv
theorem swapC_plain {n j i : Nat} {k : FloatKind} {xs : List Nat} {v : AV} (hv : v.plain = true) : AV.swapC n j i k xs v = v := by
  unfold AV.swapC
  split
  · simp [AV.plain] at hv
  · simp [AV.plain] at hv
  · exact drop_plain hv
theorem fillS_plain {n j : Nat} {k : FloatKind} {xs : List Nat} {v : AV} (hv : v.plain = true) : AV.fillS n j k xs v = v := by
  unfold AV.fillS
  split
  · simp [AV.plain] at hv
  · simp [AV.plain] at hv
  · exact drop_plain hv
theorem map_get {U : AV → AV} (hU : Upd U) (σ : Env) (j : Nat) : List.getD (σ.map U) j .any = U (σ.getD j .any) := by
  simp only [List.getD, List.getElem?_map]
  cases σ[j]? with
  | none => simp [hU.any]
  | some v => rfl
theorem map_put {U : AV → AV} (σ : Env) (d : Option Nat) (v : AV) : List.map U (Env.put d v σ) = Env.put d (U v) (List.map U σ) := by
  cases d with
  | none => rfl
  | some d => simp only [Env.put, List.map_set]
theorem spl_plain {n off : Nat} {k : FloatKind} {zs : List Nat} {v : AV} (hv : v.plain = true) : AV.spl n off k zs v = v := by
  unfold AV.spl
  split
  · simp [AV.plain] at hv
  · exact drop_plain hv
theorem store_step {VC : FuncId → List AV → AV → Prop} {y : VStep} {r : AV} {σ σ' : Env} {o : Prop} (hk : y.kd.stores = true) (hg : y.guard = none) (h : stepE VC y r σ = some (σ', o)) :
    ∃ (U : AV → AV) (v : AV), Upd U ∧ U v = v ∧ σ' = Env.put y.dst v (σ.map U) ∧ ∀ τ : Env, y.opds.map τ.ev = y.opds.map σ.ev → stepE VC y r τ = some (Env.put y.dst v (τ.map U), o) := by
  unfold stepE at h ⊢
  simp only [hg] at h ⊢
  unfold stepW at h ⊢
  generalize y.kd = k at h hk ⊢
  cases k <;> simp only [K.stores] at hk <;> (try cases hk)
  · generalize hv : y.opds.map σ.ev = vs at h
    split at h
    case h_1 =>
      rename_i n j w x heq; cases heq
      split at h
      · rename_i hs
        cases h
        refine ⟨_, .any, Upd.one n j x, (Upd.one n j x).any, by simp only [Env.upd, updL_map], fun τ hτ => ?_⟩
        rw [hτ]
        simp only [hs, if_true, Env.upd, updL_map]
      · cases h
    case h_2 =>
      rename_i n i j w k x heq; cases heq
      cases h
      have hU := Upd.deep (f := AV.updR n i j k x) rfl (fun v hv => updR_plain hv)
      refine ⟨_, .any, hU, hU.any, by simp only [Env.deep, deepL_map], fun τ hτ => ?_⟩
      rw [hτ]
      simp only [Env.deep, deepL_map]
    case h_3 =>
      rename_i n j k w m i q xs heq; cases heq
      split at h
      · rename_i hs
        cases h
        have hU := Upd.deep (f := AV.swapC n j i k xs) rfl (fun v hv => swapC_plain hv)
        refine ⟨_, .any, hU, hU.any, by simp only [Env.deep, deepL_map], fun τ hτ => ?_⟩
        rw [hτ]
        simp only [hs, and_self, if_true, Env.deep, deepL_map]
      · cases h
    case h_4 =>
      rename_i n j k hh w m i q xs heq; cases heq
      split at h
      · rename_i hs
        cases h
        have hU := Upd.deep (f := AV.fillS n j k xs) rfl (fun v hv => fillS_plain hv)
        refine ⟨_, .any, hU, hU.any, by simp only [Env.deep, deepL_map], fun τ hτ => ?_⟩
        rw [hτ]
        simp only [hs, and_self, if_true, Env.deep, deepL_map]
      · cases h
    case h_5 =>
      rename_i n w x heq; cases heq
      split at h
      · rename_i hs
        cases h
        refine ⟨_, .any, Upd.one n 0 x, (Upd.one n 0 x).any, by simp only [Env.upd, updL_map], fun τ hτ => ?_⟩
        rw [hτ]
        simp only [hs, if_true, Env.upd, updL_map]
      · cases h
    case h_10 => simp only [evalK] at h; cases h
    all_goals (rename_i heq; cases heq)
  · rename_i m
    generalize hv : y.opds.map σ.ev = vs at h
    split at h
    case h_6 =>
      rename_i n cells xs heq; cases heq
      split at h
      · rename_i hs
        cases h
        obtain ⟨U, hU, hm⟩ := updN_map n xs 0
        refine ⟨U, .any, hU, hU.any, by simp only [hm], fun τ hτ => ?_⟩
        rw [hτ]
        simp only [hs, and_self, if_true, hm]
      · cases h
    case h_10 => simp only [evalK] at h; cases h
    all_goals (rename_i heq; cases heq)
  · generalize hv : y.opds.map σ.ev = vs at h
    split at h
    case h_7 =>
      rename_i n off k xs g p q ys heq; cases heq
      split at h
      · rename_i hs
        cases h
        have hU := Upd.deep (f := AV.spl n off k (ys.take xs.length)) rfl (fun v hv => spl_plain hv)
        refine ⟨_, .i .i64 ((Nat.min ys.length xs.length : Nat) : Int), hU, hU.plain _ rfl, by simp only [Env.deep, deepL_map], fun τ hτ => ?_⟩
        rw [hτ]
        simp only [hs, if_true, Env.deep, deepL_map]
      · cases h
    case h_10 => simp only [evalK] at h; cases h
    all_goals (rename_i heq; cases heq)
theorem bin_plain {op : BinOp} {x y v : AV} {o : Prop} (h : bin op x y = some (v, o)) : x.plain = true ∧ y.plain = true ∧ v.plain = true := by
  unfold bin at h
  split at h <;> first | (simp at h; done) | (split at h <;> cases h; exact ⟨rfl, rfl, rfl⟩) | (cases h; exact ⟨rfl, rfl, rfl⟩) | cases h
theorem light_step {VC : FuncId → List AV → AV → Prop} {x : VStep} {r : AV} {vs : List AV} {v : AV} {ns : List Nat} {o : Prop} (hk : x.kd.light = true) (h : coreV VC x r vs = some (v, ns, o)) :
    ns = [] ∧ ∀ U, Upd U → coreV VC x r (vs.map U) = some (U v, [], o) := by
  unfold coreV at h ⊢
  generalize x.kd = k at h hk ⊢
  cases k <;> simp only [K.light] at hk <;> (try cases hk)
  · simp only [evalK] at h ⊢
    unfold eMv at h
    split at h <;> cases h
    exact ⟨rfl, fun U hU => rfl⟩
  · rename_i op
    simp only [evalK] at h ⊢
    unfold eBin at h
    split at h
    · split at h
      · rename_i a b v' o' hb
        cases h
        obtain ⟨h1, h2, h3⟩ := bin_plain hb
        refine ⟨rfl, fun U hU => ?_⟩
        simp only [List.map_cons, List.map_nil, eBin, hU.plain _ h1, hU.plain _ h2, hU.plain _ h3, hb]
      · cases h
    · cases h
  · rename_i j
    simp only [evalK] at h ⊢
    unfold eExtract at h
    split at h
    · split at h
      · rename_i xs v' hx
        cases h
        refine ⟨rfl, fun U hU => ?_⟩
        simp only [List.map_cons, List.map_nil, eExtract, hU.tup, List.getElem?_map, hx, Option.map_some]
      · cases h
    · cases h
theorem swap_store {VC : FuncId → List AV → AV → Prop} {St : VStep → AV → Env → Option (Env × Prop)} {x y : VStep} {rx ry : AV} {l : List (VStep × AV)} {σ : Env} {Q : Env → Prop} (Ex : ∀ τ, St x rx τ = stepE VC x rx τ) (Ey : ∀ τ, St y ry τ = stepE VC y ry τ) (hs : storeSwap x y = true) (cx : x.clean = true)
    (h : RunTo St ((x, rx) :: (y, ry) :: l) σ Q) : RunTo St ((y, ry) :: (x, rx) :: l) σ Q := by
  unfold storeSwap at hs
  simp only [Bool.and_eq_true, Bool.not_eq_true', List.all_eq_true, Option.isNone_iff_eq_none, beq_eq_false_iff_ne, ne_eq] at hs
  obtain ⟨⟨⟨⟨⟨⟨⟨kx, ky⟩, gx⟩, gy⟩, hne⟩, hrx⟩, dx⟩, hry⟩ := hs
  have sx : x.kd.special = false := by
    revert kx; cases x.kd <;> simp [K.light, K.special]
  obtain ⟨σ1, ox, h1, hox, σ2, oy, h2, hoy, h3⟩ := h
  rw [Ex] at h1
  rw [Ey] at h2
  rw [stepE_evalS sx] at h1
  have eS : ∀ τ : Env, evalS VC x rx τ = coreV VC x rx (x.opds.map τ.ev) := by intro τ; unfold evalS; simp only [gx]
  rw [eS] at h1
  split at h1 <;> cases h1
  rename_i vx nsx hex
  obtain ⟨rfl, hU⟩ := light_step kx hex
  have s0 : ∀ τ : Env, τ.scrubs [] = τ := fun _ => rfl
  rw [s0] at h2
  obtain ⟨U, v, hUp, hv, e2, hall⟩ := store_step ky gy h2
  have hy := hall σ (by
    apply List.map_congr_left
    intro p hp
    cases p with
    | k v => rfl
    | t n =>
      have hn : n ∈ y.reads := by
        unfold VStep.reads
        simp only [List.mem_append, List.mem_filterMap]
        exact .inl ⟨.t n, hp, rfl⟩
      simp only [Env.ev]
      exact (put_ne (hry n hn)).symm)
  have ho : x.opds.map (Env.ev (Env.put y.dst v (σ.map U))) = (x.opds.map σ.ev).map U := by
    rw [List.map_map]
    apply List.map_congr_left
    intro p hp
    cases p with
    | k v =>
      have hc : v.plain = true := by
        unfold VStep.clean at cx
        simp only [Bool.and_eq_true, List.all_eq_true] at cx
        exact cx.2 _ hp
      simp [Env.ev, hUp.plain v hc]
    | t n =>
      have hn : n ∈ x.reads := by
        unfold VStep.reads
        simp only [List.mem_append, List.mem_filterMap]
        exact .inl ⟨.t n, hp, rfl⟩
      simp only [Function.comp, Env.ev]
      rw [put_ne (fun e => hrx n hn e)]
      exact map_get hUp σ n
  have hx2 : stepE VC x rx (Env.put y.dst v (σ.map U)) = some (Env.put x.dst (U vx) (Env.put y.dst v (σ.map U)), ox) := by
    rw [stepE_evalS sx, eS, ho, hU U hUp]
    rfl
  refine ⟨_, oy, by rw [Ey]; exact hy, hoy, _, ox, by rw [Ex]; exact hx2, hox, ?_⟩
  rw [e2, map_put] at h3
  have comm : Env.put x.dst (U vx) (Env.put y.dst v (σ.map U)) = Env.put y.dst v (Env.put x.dst (U vx) (σ.map U)) := by
    cases hd : x.dst with
    | none => rfl
    | some d =>
      cases he : y.dst with
      | none => rfl
      | some e =>
        simp only [Env.put]
        rw [List.set_comm _ _ (fun h => hne (by rw [hd, he, h]))]
  rw [comm]
  exact h3
/-! ### an append and what only reckons -/
def scr (n : Nat) (v : AV) : AV := if v.has n then .any else v
theorem map_scr (n : Nat) : ∀ (l : List AV) (j : Nat), (l.map (scr n)).getD j .any = scr n (l.getD j .any)
  | [], j => by simp [scr, AV.has]
  | x :: r, 0 => by simp
  | x :: r, j + 1 => by simpa using map_scr n r j
theorem scrub_scr (n : Nat) (σ : Env) (j : Nat) : (σ.scrub n).getD j .any = scr n (σ.getD j .any) := map_scr n σ j
theorem scrub_put (n : Nat) (σ : Env) (d : Option Nat) (v : AV) : (σ.put d v).scrub n = (σ.scrub n).put d (scr n v) := by
  cases d with
  | none => rfl
  | some d => simp only [Env.put, Env.scrub, List.map_set]; rfl
theorem of_strict {x : AV} : ∀ {c c' : Cont}, Cont.of x c = some c' → x ≠ .any := by
  intro c c' h e
  subst e
  cases c <;> simp [Cont.of] at h
theorem litOf_strict {e : Cont} : ∀ {xs : List AV} {c : Cont}, litOf e xs = some c → ∀ x, x ∈ xs → x ≠ .any
  | [], c, _, x, hx => by cases hx
  | y :: r, c, h, x, hx => by
    unfold litOf at h
    split at h
    · rename_i c' hc'
      rcases List.mem_cons.1 hx with rfl | hx
      · exact of_strict h
      · exact litOf_strict hc' x hx
    · cases h
theorem evalK_strict {d : Nat} {k : K} {vs : List AV} {v : AV} {ns : List Nat} {o : Prop} (hk : k.strict = true) (h : evalK d k vs = some (v, ns, o)) : ∀ x, x ∈ vs → x ≠ .any := by
  cases k <;> simp only [K.strict] at hk <;> (try cases hk) <;> simp only [evalK] at h
  case bin op =>
    unfold eBin at h
    split at h
    · split at h
      · rename_i x y v' o' hb
        obtain ⟨h1, h2, _⟩ := bin_plain hb
        intro z hz e
        subst e
        simp only [List.mem_cons, List.not_mem_nil, or_false] at hz
        rcases hz with hz | hz <;> subst hz
        · cases h1
        · cases h2
      · cases h
    · cases h
  case iaddr =>
    unfold eIaddr at h; split at h <;> cases h <;> (intro z hz e; subst e; simp at hz)
  case load =>
    unfold eLoad at h; split at h <;> cases h <;> (intro z hz e; subst e; simp at hz)
  case lit own e =>
    unfold eLit at h
    split at h
    · split at h <;> cases h
      intro z hz; cases hz
    · split at h <;> cases h
      rename_i c hc
      exact litOf_strict hc
theorem scr_eq {n : Nat} {v : AV} (h : scr n v ≠ .any) : scr n v = v ∧ v.has n = false := by
  unfold scr at h ⊢
  cases hv : v.has n with
  | true => rw [hv] at h; simp at h
  | false => simp
theorem light_or {VC : FuncId → List AV → AV → Prop} {y : VStep} {r : AV} {us : List AV} {v : AV} {ns : List Nat} {o : Prop} {n : Nat} (hy : y.kd.light = true ∨ y.kd.strict = true) (hc : y.clean = true) (hn : n ∉ y.names)
    (h : coreV VC y r (us.map (scr n)) = some (v, ns, o)) : ∃ u, v = scr n u ∧ coreV VC y r us = some (u, ns, o) := by
  have hsp : y.kd.special = false := by
    revert hy; cases y.kd <;> simp [K.light, K.strict, K.special]
  by_cases hm : y.kd = .mv
  · unfold coreV at h ⊢
    rw [hm] at h ⊢
    simp only [evalK] at h ⊢
    match us, h with
    | [u], h => simp only [List.map_cons, List.map_nil, eMv] at h ⊢; cases h; exact ⟨u, rfl, rfl⟩
    | [], h => simp [eMv] at h
    | _ :: _ :: _, h => simp [eMv] at h
  · have hst : ∀ x, x ∈ us.map (scr n) → x ≠ .any := by
      have he : ∀ f, y.kd ≠ .call f := by intro f e; rw [e] at hy; simp [K.light, K.strict] at hy
      have he2 : y.kd ≠ .callv := by intro e; rw [e] at hy; simp [K.light, K.strict] at hy
      have hcore : evalK (y.dst.getD 0) y.kd (us.map (scr n)) = some (v, ns, o) := by
        unfold coreV at h
        split at h
        · rename_i hkd; exact absurd hkd (he _)
        · rename_i hkd _; exact absurd hkd he2
        · exact h
      rcases hy with hy | hy
      · generalize y.kd = k at *
        cases k <;> simp only [K.light] at hy <;> (try cases hy)
        · exact absurd rfl hm
        · exact evalK_strict rfl hcore
        · simp only [evalK] at hcore
          unfold eExtract at hcore
          split at hcore
          · rename_i heq
            intro x hx e
            rw [heq, e] at hx; simp at hx
          · cases hcore
      · exact evalK_strict hy hcore
    have hus : us.map (scr n) = us := by
      have : ∀ x, x ∈ us → scr n x = x := fun x hx => (scr_eq (hst _ (List.mem_map_of_mem hx))).1
      exact (List.map_congr_left this).trans (List.map_id us)
    have hno : AV.hasL n us = false := hasL_of fun x hx => (scr_eq (hst _ (List.mem_map_of_mem hx))).2
    rw [hus] at h
    have hv := coreV_has hsp hc h hno hn
    exact ⟨v, by unfold scr; rw [hv]; simp, h⟩
theorem swap_app {VC : FuncId → List AV → AV → Prop} {St : VStep → AV → Env → Option (Env × Prop)} {x y : VStep} {rx ry : AV} {l : List (VStep × AV)} {σ : Env} {Q : Env → Prop} (Ex : ∀ τ, St x rx τ = stepE VC x rx τ) (Ey : ∀ τ, St y ry τ = stepE VC y ry τ) (hs : appSwap x y = true) (cx : x.clean = true) (cy : y.clean = true)
    (fx : Fresh x σ) (fy : Fresh y σ) (h : RunTo St ((x, rx) :: (y, ry) :: l) σ Q) : RunTo St ((y, ry) :: (x, rx) :: l) σ Q := by
  unfold appSwap at hs
  simp only [Bool.and_eq_true, Bool.not_eq_true', List.all_eq_true, VStep.fixed, Bool.or_eq_false_iff, Bool.or_eq_true, beq_eq_false_iff_ne, ne_eq, Option.isNone_iff_eq_none] at hs
  obtain ⟨⟨⟨⟨⟨⟨⟨⟨kx, ky⟩, sy, dy⟩, gx⟩, gy⟩, dx⟩, hne⟩, hrx⟩, hry⟩ := hs
  have hkx : x.kd = .app := by revert kx; cases x.kd <;> simp [K.isApp]
  obtain ⟨σ1, ox, h1, hox, σ2, oy, h2, hoy, h3⟩ := h
  rw [Ex] at h1
  rw [Ey] at h2
  have eX : ∀ τ : Env, stepE VC x rx τ = match eApp (x.dst.getD 0) (x.opds.map τ.ev) with | some (v, ns, o) => some ((τ.scrubs ns).put x.dst v, o) | none => none := by
    intro τ
    unfold stepE
    simp only [gx]
    unfold stepW
    rw [hkx]
    rfl
  rw [eX] at h1
  split at h1 <;> cases h1
  rename_i vx nsx hex
  obtain ⟨n, hns, hnv, hny⟩ : ∃ n, nsx = [n] ∧ (∀ m, m ≠ n → vx.has m = false) ∧ n ∉ y.names := by
    unfold eApp at hex
    split at hex
    · rename_i n xs g off ys heq
      split at hex
      · split at hex <;> cases hex
        refine ⟨n, rfl, fun m hm => ?_, fun hmem => ?_⟩
        · simp only [AV.has, Tag.names]; simp; exact fun e => hm e.symm
        · have := opds_has (s := x) cx (fy n hmem)
          rw [heq] at this
          simp [AV.hasL, AV.has, Tag.names] at this
      · cases hex
    · split at hex
      · split at hex <;> cases hex
        refine ⟨_, rfl, fun m hm => ?_, fun hmem => ?_⟩
        · simp only [AV.has, Tag.names]; simp; exact fun e => hm e.symm
        · refine names_apart hne (by simpa using dx) dy (n := 8 * x.dst.getD 0) ?_ hmem
          unfold VStep.names; rw [hkx]; simp
      · cases hex
    · cases hex
  subst hns
  have hsc : ∀ τ : Env, τ.scrubs [n] = τ.scrub n := fun _ => rfl
  rw [hsc] at h2
  rw [stepE_evalS sy] at h2
  have eY : ∀ τ : Env, evalS VC y ry τ = coreV VC y ry (y.opds.map τ.ev) := by intro τ; unfold evalS; simp only [gy]
  rw [eY] at h2
  split at h2 <;> cases h2
  rename_i vy nsy hey
  have hop : y.opds.map ((σ.scrub n).put x.dst vx).ev = (y.opds.map σ.ev).map (scr n) := by
    rw [List.map_map]
    apply List.map_congr_left
    intro p hp
    cases p with
    | k v =>
      have hc : v.plain = true := by
        unfold VStep.clean at cy
        simp only [Bool.and_eq_true, List.all_eq_true] at cy
        exact cy.2 _ hp
      simp [Env.ev, scr, plain_has hc n]
    | t m =>
      have hm : m ∈ y.reads := by
        unfold VStep.reads
        simp only [List.mem_append, List.mem_filterMap]
        exact .inl ⟨.t m, hp, rfl⟩
      simp only [Function.comp, Env.ev]
      rw [put_ne (hry m hm), scrub_scr]
  rw [hop] at hey
  obtain ⟨u, rfl, hu⟩ := light_or ky cy hny hey
  have sub := evalS_names (VC := VC) (r := ry) (σ := σ) (s := y) (v := u) (ns := nsy) (o := oy) sy (by rw [eY]; exact hu)
  have ny : σ.scrubs nsy = σ := scrubs_none fun m hm => fy m (sub m hm)
  have ny2 : ((σ.scrub n).put x.dst vx).scrubs nsy = (σ.scrub n).put x.dst vx := by
    refine scrubs_none fun m hm j => put_get (fun j => ?_) (hnv m fun e => hny (e ▸ sub m hm))
    rw [scrub_scr]
    unfold scr
    split
    · rfl
    · exact fy m (sub m hm) j
  rw [ny2] at h3
  refine ⟨σ.put y.dst u, oy, by rw [Ey, stepE_evalS sy, eY, hu]; simp only [ny], hoy, ((σ.put y.dst u).scrub n).put x.dst vx, ox, ?_, hox, ?_⟩
  · have hox2 : x.opds.map (σ.put y.dst u).ev = x.opds.map σ.ev := by
      apply List.map_congr_left
      intro p hp
      cases p with
      | k v => rfl
      | t m =>
        have hm : m ∈ x.reads := by
          unfold VStep.reads
          simp only [List.mem_append, List.mem_filterMap]
          exact .inl ⟨.t m, hp, rfl⟩
        exact put_ne (hrx m hm)
    rw [Ex, eX, hox2, hex]
    rfl
  · rw [scrub_put]
    have comm : Env.put x.dst vx (Env.put y.dst (scr n u) (σ.scrub n)) = Env.put y.dst (scr n u) (Env.put x.dst vx (σ.scrub n)) := by
      cases hd : x.dst with
      | none => rw [hd] at dx; simp at dx
      | some d =>
        cases he : y.dst with
        | none => rfl
        | some e =>
          simp only [Env.put]
          rw [List.set_comm _ _ (fun h => hne (by rw [hd, he, h]))]
    rw [comm]
    exact h3
theorem swap_one {VC : FuncId → List AV → AV → Prop} {St : VStep → AV → Env → Option (Env × Prop)} {x y : VStep} {rx ry : AV} {l : List (VStep × AV)} {σ : Env} {Q : Env → Prop} (Ex : ∀ τ, St x rx τ = stepE VC x rx τ) (Ey : ∀ τ, St y ry τ = stepE VC y ry τ) (hs : swapOk x y = true) (cx : x.clean = true) (cy : y.clean = true)
    (fx : Fresh x σ) (fy : Fresh y σ) (h : RunTo St ((x, rx) :: (y, ry) :: l) σ Q) : RunTo St ((y, ry) :: (x, rx) :: l) σ Q := by
  unfold swapOk at hs
  cases h1 : freeSwap x y with
  | true => exact swap_free Ex Ey h1 cx cy fx fy h
  | false =>
    rw [h1, Bool.false_or] at hs
    cases h2 : storeSwap x y with
    | true => exact swap_store Ex Ey h2 cx h
    | false => rw [h2, Bool.false_or] at hs; exact swap_app Ex Ey hs cx cy fx fy h

/-! ### what is not spoken of stays so -/
mutual
theorem upd_has {g : Tag} {j n : Nat} {x : AV} (hx : x.has n = false) : ∀ v : AV, v.has n = false → (AV.upd g j x v).has n = false
  | .any, h => by simp [AV.upd, AV.has]
  | .b _, h => by simp [AV.upd, AV.has]
  | .i _ _, h => by simp [AV.upd, AV.has]
  | .f _ _, h => by simp [AV.upd, AV.has]
  | .c _ _ _, h => by simp [AV.upd, AV.has]
  | .sl g' off xs, h => by
    simp only [AV.upd]
    (repeat' split) <;> simp_all [AV.has]
  | .bx g' cells, h => by
    simp only [AV.has, Bool.or_eq_false_iff] at h
    simp only [AV.upd]
    split
    · simp only [AV.has, h.1, Bool.false_or]
      refine hasL_of fun y hy => ?_
      rcases List.mem_or_eq_of_mem_set hy with hy | rfl
      · exact hasL_mem (updL_has hx cells h.2) hy
      · exact hx
    · simp only [AV.has, h.1, Bool.false_or]; exact updL_has hx cells h.2
  | .ad g' idx y, h => by
    simp only [AV.has, Bool.or_eq_false_iff] at h
    simp only [AV.upd]
    split
    · split
      · simp [AV.has, h.1, hx]
      · simp [AV.has, h.1, upd_has hx y h.2]
    · simp [AV.has, h.1, upd_has hx y h.2]
  | .nw m lo k xss hh, h => by
    simp only [AV.upd]
    cases g.names m with
    | true => rfl
    | false => exact h
  | .na m ix k hh y, h => by
    simp only [AV.has, Bool.or_eq_false_iff] at h
    simp only [AV.upd]
    cases g.names m with
    | true => rfl
    | false => simp [AV.has, h.1, upd_has hx y h.2]
  | .agg cells, h => by simp only [AV.has] at h; simp only [AV.upd, AV.has]; exact updL_has hx cells h
  | .tup cells, h => by simp only [AV.has] at h; simp only [AV.upd, AV.has]; exact updL_has hx cells h
  | .fn f cells, h => by simp only [AV.has] at h; simp only [AV.upd, AV.has]; exact updL_has hx cells h
theorem updL_has {g : Tag} {j n : Nat} {x : AV} (hx : x.has n = false) : ∀ vs : List AV, AV.hasL n vs = false → AV.hasL n (AV.updL g j x vs) = false
  | [], h => by simp [AV.updL, AV.hasL]
  | v :: r, h => by
    simp only [AV.hasL, Bool.or_eq_false_iff] at h
    simp [AV.updL, AV.hasL, upd_has hx v h.1, updL_has hx r h.2]
end
theorem drop_has {n l : Nat} {v : AV} (h : v.has l = false) : (v.drop n).has l = false := by
  unfold AV.drop
  cases v.has n with
  | true => rfl
  | false => exact h
theorem updR_has {n i j x l : Nat} {k : FloatKind} {v : AV} (h : v.has l = false) : (AV.updR n i j k x v).has l = false := by
  unfold AV.updR
  split
  · (repeat' split) <;> first | rfl | exact h
  · (repeat' split) <;> first | rfl | exact h
  · exact drop_has h
theorem swapC_has {n j i l : Nat} {k : FloatKind} {xs : List Nat} {v : AV} (h : v.has l = false) : (AV.swapC n j i k xs v).has l = false := by
  unfold AV.swapC
  split
  · split <;> exact h
  · (repeat' split) <;> first | rfl | exact h
  · exact drop_has h
theorem fillS_has {n j l : Nat} {k : FloatKind} {xs : List Nat} {v : AV} (h : v.has l = false) : (AV.fillS n j k xs v).has l = false := by
  unfold AV.fillS
  split
  · (repeat' split) <;> first | rfl | exact h
  · exact h
  · exact drop_has h
theorem spl_has {n off l : Nat} {k : FloatKind} {zs : List Nat} {v : AV} (h : v.has l = false) : (AV.spl n off k zs v).has l = false := by
  unfold AV.spl
  split
  · (repeat' split) <;> first | rfl | exact h
  · exact drop_has h
mutual
theorem deep_has {f : AV → AV} {l : Nat} (hf : ∀ v : AV, v.has l = false → (f v).has l = false) : ∀ v : AV, v.has l = false → (AV.deep f v).has l = false
  | .tup xs, h => by simp only [AV.deep, AV.has] at *; exact deepL_has hf xs h
  | .any, h => by simpa [AV.deep] using hf _ h
  | .b _, h => by simpa [AV.deep] using hf _ h
  | .i _ _, h => by simpa [AV.deep] using hf _ h
  | .f _ _, h => by simpa [AV.deep] using hf _ h
  | .c _ _ _, h => by simpa [AV.deep] using hf _ h
  | .sl _ _ _, h => by simpa [AV.deep] using hf _ h
  | .bx _ _, h => by simpa [AV.deep] using hf _ h
  | .ad _ _ _, h => by simpa [AV.deep] using hf _ h
  | .agg _, h => by simpa [AV.deep] using hf _ h
  | .fn _ _, h => by simpa [AV.deep] using hf _ h
  | .nw _ _ _ _ _, h => by simpa [AV.deep] using hf _ h
  | .na _ _ _ _ _, h => by simpa [AV.deep] using hf _ h
theorem deepL_has {f : AV → AV} {l : Nat} (hf : ∀ v : AV, v.has l = false → (f v).has l = false) : ∀ xs : List AV, AV.hasL l xs = false → AV.hasL l (AV.deepL f xs) = false
  | [], h => rfl
  | x :: r, h => by
    simp only [AV.hasL, Bool.or_eq_false_iff] at h
    simp [AV.deepL, AV.hasL, deep_has hf x h.1, deepL_has hf r h.2]
end
theorem env_hasL {σ : Env} {n : Nat} (h : ∀ j, (σ.getD j .any).has n = false) : AV.hasL n σ = false := by
  refine hasL_of fun x hx => ?_
  obtain ⟨i, hi⟩ := List.getElem?_of_mem hx
  have := h i
  simpa [List.getD, hi] using this
theorem env_get {σ : Env} {n : Nat} (h : AV.hasL n σ = false) (j : Nat) : (σ.getD j .any).has n = false := by
  cases hj : σ[j]? with
  | none => simp [List.getD, hj, AV.has]
  | some v => simp only [List.getD, hj, Option.getD_some]; exact hasL_mem h (List.mem_of_getElem? hj)
theorem updN_has {g : Tag} {n : Nat} : ∀ {xs : List AV} {j : Nat} {σ : Env}, AV.hasL n xs = false → (∀ j, (σ.getD j .any).has n = false) → ∀ i, ((σ.updN g j xs).getD i .any).has n = false
  | [], j, σ, _, h, i => h i
  | x :: r, j, σ, hx, h, i => by
    simp only [AV.hasL, Bool.or_eq_false_iff] at hx
    exact updN_has (j := j + 1) hx.2 (env_get (updL_has hx.1 σ (env_hasL h))) i
theorem scrubs_has {ns : List Nat} {σ : Env} {n : Nat} (h : ∀ j, (σ.getD j .any).has n = false) (j : Nat) : ((σ.scrubs ns).getD j .any).has n = false := by
  rcases scrubs_get ns σ j with h1 | ⟨h1, _⟩
  · rw [h1]; rfl
  · rw [h1]; exact h j

theorem step_keeps {VC : FuncId → List AV → AV → Prop} {s : VStep} {r : AV} {σ σ' : Env} {o : Prop} (hc : s.clean = true) (h : stepE VC s r σ = some (σ', o)) {n : Nat} (hn : n ∉ s.names)
    (hσ : ∀ j, (σ.getD j .any).has n = false) : ∀ j, (σ'.getD j .any).has n = false := by
  cases hk : s.kd.special with
  | false =>
    rw [stepE_evalS hk] at h
    split at h <;> cases h
    rename_i v ns o he
    exact fun j => put_get (scrubs_has hσ) (evalS_has hk hc he hσ hn)
  | true =>
    have hvs := opds_has hc hσ
    have main : stepW VC s r σ = some (σ', o) → ∀ j, (σ'.getD j .any).has n = false := by
      intro h
      unfold stepW at h
      split at h
      · rename_i m i _ x hkd hop
        rw [hop] at hvs
        simp only [AV.hasL, Bool.or_eq_false_iff] at hvs
        split at h <;> cases h
        exact fun j => put_get (env_get (updL_has hvs.2.1 σ (env_hasL hσ))) rfl
      · cases h
        exact fun j => put_get (env_get (deepL_has (fun v hv => updR_has hv) σ (env_hasL hσ))) rfl
      · split at h <;> cases h
        exact fun j => put_get (env_get (deepL_has (fun v hv => swapC_has hv) σ (env_hasL hσ))) rfl
      · split at h <;> cases h
        exact fun j => put_get (env_get (deepL_has (fun v hv => fillS_has hv) σ (env_hasL hσ))) rfl
      · rename_i m _ x hkd hop
        rw [hop] at hvs
        simp only [AV.hasL, Bool.or_eq_false_iff] at hvs
        split at h <;> cases h
        exact fun j => put_get (env_get (updL_has hvs.2.1 σ (env_hasL hσ))) rfl
      · rename_i m m' cells xs hkd hop
        rw [hop] at hvs
        simp only [AV.hasL, AV.has, Bool.or_eq_false_iff] at hvs
        split at h <;> cases h
        exact fun j => put_get (updN_has hvs.2.1 hσ) rfl
      · split at h <;> cases h
        exact fun j => put_get (env_get (deepL_has (fun v hv => spl_has hv) σ (env_hasL hσ))) rfl
      · rename_i hkd; rw [hkd] at hk; cases hk
      · rename_i hkd _; rw [hkd] at hk; cases hk
      · split at h <;> cases h
        rename_i v ns o he
        refine fun j => put_get (scrubs_has hσ) ?_
        generalize hkd' : s.kd = k at hk he hn
        cases k <;> simp only [K.special] at hk <;> (try cases hk) <;> simp only [evalK] at he <;> (try cases he)
        unfold eApp at he; split at he
        · split at he
          · split at he <;> cases he
            rename_i hop _ _ _ _
            rw [hop] at hvs
            simp only [AV.hasL, AV.has, Bool.or_eq_false_iff] at hvs
            simp [AV.has, hvs.1]
          · cases he
        · split at he
          · split at he <;> cases he
            simp [VStep.names, hkd'] at hn
            simp only [AV.has, Tag.names]; simp; exact fun e => hn e.symm
          · cases he
        · cases he
    unfold stepE at h
    split at h
    · exact main h
    · split at h
      · rename_i x _
        cases hx : (x == _) with
        | true => rw [hx] at h; exact main h
        | false => rw [hx] at h; cases h; exact fun j => put_get hσ rfl
      · cases h; exact fun j => put_get hσ rfl
      · cases h
end Go.Proofs.LV
