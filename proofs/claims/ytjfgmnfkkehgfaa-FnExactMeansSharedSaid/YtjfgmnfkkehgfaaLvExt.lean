/- Functions of Go's library that have no body: the bits of a number, the number of bits, the root. -/
import Derived.Test.YtjfgmnfkkehgfaaLvEv
import Derived.KernelRfl
import GoSem.Extern.Table
namespace Go.Proofs.LV
open Go Go.RowKit
set_option linter.unusedVariables false
set_option linter.unusedSimpArgs false

/-- function f is answered by e -/
structure ExtIs (P : Program) (f : FuncId) (e : Array Value → Sem Value) : Prop where
  run : ∀ (vs : Array Value) (w w' : World) (v : Value), (e vs).run P w = .ok v w' → (callFunc f vs).run P w = .ok (.value v) w'

theorem ExtIs.of {P : Program} {f : FuncId} {fn : Func} {e : Array Value → Sem Value} (hf : P.funcs[f]? = some fn) (hname : (fn.name == "runtime.NumGoroutine") = false) (hb : fn.body.isNone = true)
    (hn : Extern.findNext fn = none) (he : Extern.find fn = some e) : ExtIs P f e := by
  refine ⟨fun vs w w' v h => ?_⟩
  have h1 : fn.name ≠ "runtime.NumGoroutine" := by simpa using hname
  have h2 : fn.body = none := by simpa using hb
  simp [callFunc, hf, h1, h2, hn, he, h]

/-- what such a function says of numbers, and no more -/
theorem ext_call {P : Program} {f : FuncId} {e : Array Value → Sem Value} (h : ExtIs P f e) {args : List AV} {r : AV} (hM : r.isM = false := by rfl)
    (hr : ∀ (G : Gh) (w : World) (vs : Array Value), VL G w args vs.toList → ∃ v n, (e vs).run P w = .ok v { w with drawn := n } ∧ ∀ G' w', VR G' w' r v) : VCall P f args r := by
  refine VCallN.to hM ⟨fun w I π vs hI hπ hv => .inr ?_⟩
  obtain ⟨v, n, hv1, hv2⟩ := hr _ w vs hv
  have hs := (start_sim hI hπ hv 0).g
  exact ⟨v, _, h.run _ _ _ _ hv1, v, argGh I π, rfl, hs.same ⟨n, rfl⟩, hv2 _ _⟩

theorem canon_not_nan {k : FloatKind} {b : Nat} (h : canon k b ≠ fnan k) : canon k b = b := by
  unfold canon at h ⊢
  split
  · rename_i h'; rw [if_pos h'] at h; exact absurd rfl h
  · rfl

theorem f2b32_ok {P : Program} {f : FuncId} (h : ExtIs P f Extern.MathFloatBits.float32bits) (x : Nat) (hx : x ≠ fnan .f32) : VCall P f [.f .f32 x] (.i .u32 x) := by
  refine ext_call h (hr := fun G w vs hv => ?_)
  obtain ⟨u, hu, b, rfl, hb, rfl⟩ := vl1 hv
  obtain ⟨vs⟩ := vs
  simp only at hu
  subst hu
  rw [canon_not_nan hx]
  refine ⟨.int .u32 b, w.drawn, rfl, fun G' w' => ⟨rfl, ?_, ?_⟩⟩
  · show (0 : Int) ≤ _; omega
  · show (b : Int) ≤ 4294967295
    have : b < 4294967296 := hb
    omega
theorem f2b64_ok {P : Program} {f : FuncId} (h : ExtIs P f Extern.MathFloatBits.float64bits) (x : Nat) (hx : x ≠ fnan .f64) : VCall P f [.f .f64 x] (.i .u64 x) := by
  refine ext_call h (hr := fun G w vs hv => ?_)
  obtain ⟨u, hu, b, rfl, hb, rfl⟩ := vl1 hv
  obtain ⟨vs⟩ := vs
  simp only at hu
  subst hu
  rw [canon_not_nan hx]
  refine ⟨.int .u64 b, w.drawn, rfl, fun G' w' => ⟨rfl, ?_, ?_⟩⟩
  · show (0 : Int) ≤ _; omega
  · show (b : Int) ≤ 18446744073709551615
    have : b < 18446744073709551616 := hb
    omega
theorem b2f32_ok {P : Program} {f : FuncId} (h : ExtIs P f Extern.MathFloatBits.float32frombits) (n : Int) : VCall P f [.i .u32 n] (.f .f32 (canon .f32 n.toNat)) := by
  refine ext_call h (hr := fun G w vs hv => ?_)
  obtain ⟨u, hu, rfl, h1, h2⟩ := vl1 hv
  obtain ⟨vs⟩ := vs
  simp only at hu
  subst hu
  refine ⟨.float .f32 n.toNat, w.drawn, rfl, fun G' w' => ⟨n.toNat, rfl, ?_, rfl⟩⟩
  have h2 : n ≤ 4294967295 := h2
  have h1 : (0 : Int) ≤ n := h1
  show n.toNat < 4294967296
  omega
/-- the root, every not-a-number as one -/
def fsqrt (x : Nat) : Nat := (FloatKind.f64.format.sqrt x).getD (fnan .f64)
end Go.Proofs.LV
