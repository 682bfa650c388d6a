/- The power of a series at a line, alone and with itself: the same words. -/
import Derived.Test.YtdffgjembkanoaaLvRootX
namespace Go.Proofs.LV
open Go Ieee
set_option linter.unusedVariables false
set_option linter.unusedSimpArgs false

theorem read_opp {f : Format} {x y : Nat} (hs : sign f y = !(sign f x)) (hr : rung f y = rung f x) : f.read y = (f.read x).opposite := by
  have e : ∀ z, f.read z = if rung f z < f.binade then .number (sign f z) (rung f z) f.leastPlace else if rung f z < f.infRung then .number (sign f z) (f.binade + rung f z % f.binade) (f.leastPlace + (rung f z / f.binade - 1 : Nat)) else if rung f z = f.infRung then .infinity (sign f z) else .nan (sign f z) (rung f z - f.infRung) := fun z => rfl
  rw [e y, e x, hs, hr]
  repeat' split
  all_goals rfl
theorem nearest_word (f : Format) (m : Nat) (e : Int) : ∃ r, r ≤ f.infRung ∧ ∀ s, f.nearest s m e = f.word s r := by
  by_cases h : m = 0
  · exact ⟨0, Nat.zero_le _, fun s => by unfold Format.nearest; rw [if_pos h]⟩
  · refine ⟨min (((max (e + m.log2 - f.fractionBits) f.leastPlace - f.leastPlace).toNat * f.binade + Toward.even.cut false (m <<< (e - max (e + m.log2 - f.fractionBits) f.leastPlace).toNat) (max (e + m.log2 - f.fractionBits) f.leastPlace - e).toNat)) f.infRung, Nat.min_le_right _ _, fun s => ?_⟩
    unfold Format.nearest
    rw [if_neg h]; rfl
theorem sr_word (f : Format) (s : Bool) {r : Nat} (h : r ≤ f.infRung) : sign f (f.word s r) = s ∧ rung f (f.word s r) = r :=
  ⟨(read_word_rung f s r (Nat.lt_of_le_of_lt h f.infRung_lt)).2, rung_word f s r h⟩
theorem nearest_opp (f : Format) (s : Bool) (m : Nat) (e : Int) : f.read (f.nearest (!s) m e) = (f.read (f.nearest s m e)).opposite := by
  obtain ⟨r, h1, h2⟩ := nearest_word f m e
  rw [h2, h2]
  obtain ⟨a1, a2⟩ := sr_word f s h1
  obtain ⟨b1, b2⟩ := sr_word f (!s) h1
  exact read_opp (by rw [a1, b1]) (by rw [a2, b2])
theorem neg_read {x : Nat} (h : sf x) : single.read (fneg .f32 x) = (single.read x).opposite := by
  obtain ⟨s, m, e, hr, _⟩ := read_rv h
  have h1 : (FloatKind.f32.format.read x).isNaN = false := by
    show (single.read x).isNaN = false
    rw [hr]; rfl
  have e : fneg .f32 x = x ^^^ 2 ^ 31 := by
    unfold fneg; rw [h1]; simp only [Bool.false_eq_true, if_false]
    unfold Op.negFloat
    rw [show FloatKind.f32.format.exponentBits + FloatKind.f32.format.fractionBits = 31 by decide]
  have hS : Ieee.single.signWeight = 2 ^ 31 := by decide
  refine read_opp ?_ ?_
  · rw [e]; unfold sign; rw [hS, Nat.xor_div_two_pow, Nat.div_self (by decide)]
    generalize x / 2 ^ 31 = d
    have h4 : (d ^^^ 1) % 2 = d % 2 ^^^ 1 % 2 := Nat.xor_mod_two_pow (n := 1)
    rw [h4]
    rcases Nat.mod_two_eq_zero_or_one d with h5 | h5 <;> rw [h5] <;> rfl
  · rw [e]; unfold rung; rw [hS, Nat.xor_mod_two_pow, Nat.mod_self, Nat.xor_zero]
theorem up_near {x : Nat} {s : Bool} {m : Nat} {e : Int} (h : single.read x = .number s m e) : up x = double.nearest s m e := by
  unfold up fconv
  rw [if_neg (by decide)]
  show (match single.read x with | .nan _ _ => fnan .f64 | .infinity n => FloatKind.f64.encode (.infinity n) | .number n m e => FloatKind.f64.encode (.number n m e)) = _
  rw [h]; rfl
theorem dn_form {x : Nat} {s : Bool} {m : Nat} {e : Int} (h : double.read x = .number s m e) : dn x = single.nearest s m e := by
  unfold dn fconv
  rw [if_neg (by decide)]
  show (match double.read x with | .nan _ _ => fnan .f32 | .infinity n => FloatKind.f32.encode (.infinity n) | .number n m e => FloatKind.f32.encode (.number n m e)) = _
  rw [h]; rfl
theorem up_opp {x : Nat} (h : sf x) : double.read (up (fneg .f32 x)) = (double.read (up x)).opposite := by
  obtain ⟨s, m, e, hr, _⟩ := read_rv h
  have h2 := neg_read h
  rw [hr] at h2
  have h2 : single.read (fneg .f32 x) = .number (!s) m e := h2
  rw [up_near h2, up_near hr]
  exact nearest_opp _ _ _ _
theorem mul_form (k : FloatKind) {x y : Nat} {s t : Bool} {m n : Nat} {p q : Int} (hx : k.format.read x = .number s m p) (hy : k.format.read y = .number t n q) : fmul k x y = k.format.nearest (s ^^ t) (m * n) (p + q) := by
  unfold fmul Format.mul
  rw [hx, hy]; rfl
theorem opp_opp (d : Datum) : d.opposite.opposite = d := by cases d <;> simp [Datum.opposite]
theorem mul_opp {x y z : Nat} (hx : df x) (hy : df y) (hz : double.read z = (double.read y).opposite) : double.read (fmul .f64 x z) = (double.read (fmul .f64 x y)).opposite := by
  obtain ⟨s, m, p, e1, _⟩ := read_rv hx
  obtain ⟨t, n, q, e2, _⟩ := read_rv hy
  rw [e2] at hz
  have hz : double.read z = .number (!t) n q := hz
  rw [mul_form .f64 e1 hz, mul_form .f64 e1 e2]
  have e : (s ^^ !t) = !(s ^^ t) := by cases s <;> cases t <;> rfl
  rw [e]
  exact nearest_opp _ _ _ _
/-- a number times its mirror is its power -/
theorem mu_self {u v : Nat} (hu : sf u) (hv : sf v) : muU u v u (fneg .f32 v) = pwW u v := by
  have h := mul_opp (conv_up hv).1 (conv_up hv).1 (up_opp hv)
  unfold muU pwW fsub fadd
  show ((double.read _).sum (double.read _).opposite |>.map double.write).getD _ = ((double.read _).sum (double.read _) |>.map double.write).getD _
  rw [h, opp_opp]
theorem mul_comm' {x y : Nat} (hx : df x) (hy : df y) : fmul .f64 x y = fmul .f64 y x := by
  obtain ⟨s, m, p, e1, _⟩ := read_rv hx
  obtain ⟨t, n, q, e2, _⟩ := read_rv hy
  rw [mul_form .f64 e1 e2, mul_form .f64 e2 e1, Nat.mul_comm, Int.add_comm]
  congr 1
  cases s <;> cases t <;> rfl
theorem opp_rv {f : Format} {x y : Nat} (hx : fnt f x) (hy : fnt f y) (h : f.read y = (f.read x).opposite) : rv f y = - rv f x := by
  obtain ⟨s, m, e, hr, hv, _⟩ := read_rv hx
  rw [hr] at h
  have h : f.read y = .number (!s) m e := h
  rw [rv_read hy h, hv]
  cases s <;> simp [sgR]
theorem zero_word {z : Nat} {s : Bool} {m : Nat} {e : Int} (hz : z = single.nearest s m e) (hf : sf z) (h0 : sv z = 0) : z = 0 ∨ z = 2147483648 := by
  obtain ⟨r, h1, h2⟩ := nearest_word single m e
  have hw := h2 s
  rw [← hz] at hw
  obtain ⟨a1, a2⟩ := sr_word single s h1
  have hv : sv z = sgR s ((units single.binade r : Nat) * (2 : Rat) ^ single.leastPlace) := by
    show sgR _ _ = _
    rw [hw, a1, a2]
  rw [hv] at h0
  have hu : units single.binade r = 0 := by
    rcases Nat.eq_zero_or_pos (units single.binade r) with h | h
    · exact h
    · have h3 : (1 : Rat) ≤ (units single.binade r : Nat) := nat_le_rat h
      have h4 := Rat.mul_le_mul_of_nonneg_right h3 (Rat.le_of_lt (zp_pos single.leastPlace))
      have h5 := zp_pos single.leastPlace
      unfold sgR at h0
      split at h0 <;> grind
  have hr : r = 0 := units_inj (fB single) (by rw [hu, units_zero (fB single)])
  rw [hw, hr]
  cases s
  · exact .inl (by decide)
  · exact .inr (by decide)
theorem mu_back {u v : Nat} (hu : sf u) (hv : sf v) (bu : -1000 ≤ sv u ∧ sv u ≤ 1000) (bv : -1000 ≤ sv v ∧ sv v ≤ 1000) : fconvOk .f64 .f32 (muV u v u (fneg .f32 v)) = true ∧ (dn (muV u v u (fneg .f32 v)) = 0 ∨ dn (muV u v u (fneg .f32 v)) = 2147483648) := by
  obtain ⟨uu, vu⟩ := conv_up hu
  obtain ⟨uv, vv⟩ := conv_up hv
  have hn : sf (fneg .f32 v) := by
    obtain ⟨s, m, e, hr, _⟩ := read_rv hv
    have h2 := neg_read hv
    rw [hr] at h2
    have h2 : single.read (fneg .f32 v) = .number (!s) m e := h2
    refine Nat.lt_of_not_le fun hle => ?_
    have e' : single.read (fneg .f32 v) = if rung single (fneg .f32 v) < single.binade then .number (sign single (fneg .f32 v)) (rung single (fneg .f32 v)) single.leastPlace else if rung single (fneg .f32 v) < single.infRung then .number (sign single (fneg .f32 v)) (single.binade + rung single (fneg .f32 v) % single.binade) (single.leastPlace + (rung single (fneg .f32 v) / single.binade - 1 : Nat)) else if rung single (fneg .f32 v) = single.infRung then .infinity (sign single (fneg .f32 v)) else .nan (sign single (fneg .f32 v)) (rung single (fneg .f32 v) - single.infRung) := rfl
    have hb : single.binade ≤ single.infRung := by decide
    rw [if_neg (by omega), if_neg (by omega)] at e'
    rw [h2] at e'
    split at e' <;> cases e'
  obtain ⟨un, vn⟩ := conv_up hn
  have ho := mul_opp uu uv (up_opp hv)
  have hsz : -1000000 ≤ sv u * sv v ∧ sv u * sv v ≤ 1000000 := by
    have h := mul_size (c := sv v) (d := 0) (a := sv u) (b := 0) (L := 1000) (by decide) bu ⟨by decide, by decide⟩
    have z0 : rabs 0 = 0 := by decide
    have r := rabs_le bv.1 bv.2
    rw [z0] at h
    exact ⟨by grind, by grind⟩
  have hnv : sv (fneg .f32 v) = - sv v := opp_rv hv hn (neg_read hv)
  have small : (1000000 : Rat) * e53 + eta ≤ 1 := by decide +kernel
  obtain ⟨p1, p2, p3⟩ := d_mul (B := 1000000) uu uv (by rw [vu, vv]; grind) (by rw [vu, vv]; grind) (by decide)
  obtain ⟨q1, _, _⟩ := d_mul (B := 1000000) uu un (by rw [vu, vn, hnv]; grind) (by rw [vu, vn, hnv]; grind) (by decide)
  have hz : dv (fmul .f64 (up u) (up (fneg .f32 v))) = - dv (fmul .f64 (up u) (up v)) := opp_rv p1 q1 ho
  have hc : fmul .f64 (up v) (up u) = fmul .f64 (up u) (up v) := mul_comm' uv uu
  have hs := fadd_rd .f64 (x := fmul .f64 (up u) (up (fneg .f32 v))) (y := fmul .f64 (up v) (up u)) q1 (by rw [hc]; exact p1) (by
    rw [hc, show rv FloatKind.f64.format (fmul .f64 (up u) (up (fneg .f32 v))) = _ from hz, show -dv (fmul .f64 (up u) (up v)) + rv FloatKind.f64.format (fmul .f64 (up u) (up v)) = 0 from by show -dv _ + dv _ = _; grind]
    exact topD (by decide +kernel))
  have hV : dv (muV u v u (fneg .f32 v)) = 0 := by
    have h := hs.exact 0 0 (by
      rw [hc, show rv FloatKind.f64.format (fmul .f64 (up u) (up (fneg .f32 v))) = _ from hz, show -dv (fmul .f64 (up u) (up v)) + rv FloatKind.f64.format (fmul .f64 (up u) (up v)) = 0 from by show -dv _ + dv _ = _; grind]
      decide +kernel) (by decide) (by decide)
    have h : dv (muV u v u (fneg .f32 v)) = _ := h
    rw [h, hc, show rv FloatKind.f64.format (fmul .f64 (up u) (up (fneg .f32 v))) = _ from hz]
    show -dv _ + dv _ = _; grind
  have hd : df (muV u v u (fneg .f32 v)) := hs.fin
  have hr := conv_down hd (by rw [hV]; decide) (by rw [hV]; decide)
  have h0 : sv (dn (muV u v u (fneg .f32 v))) = 0 := by
    have := hr.exact 0 0 (by rw [hV]; decide +kernel) (by decide) (by decide)
    show rv single _ = _
    rw [this, hV]
  obtain ⟨s, m, e, e1, _⟩ := read_rv hd
  exact ⟨narrowF hr.fin, zero_word (dn_form e1) hr.fin h0⟩
theorem nearest_val {f : Format} {s : Bool} {m n : Nat} {p q : Int} (h : (m : Rat) * 2 ^ p = (n : Rat) * 2 ^ q) : f.nearest s m p = f.nearest s n q := by
  have key : ∀ {m n : Nat} {p q : Int}, p ≤ q → (m : Rat) * 2 ^ p = (n : Rat) * 2 ^ q → f.nearest s m p = f.nearest s n q := by
    intro m n p q hle h
    have e : q = p + ((q - p).toNat : Int) := by omega
    rw [e, zp_add, zp_nat] at h
    have hp := zp_pos p
    have h2 : (m : Rat) = (n : Rat) * ((2 ^ (q - p).toNat : Nat) : Rat) := by
      have h3 : ((m : Rat) - (n : Rat) * ((2 ^ (q - p).toNat : Nat) : Rat)) * 2 ^ p = 0 := by grind
      rcases Rat.mul_eq_zero.1 h3 with h4 | h4
      · grind
      · grind
    rw [← Rat.natCast_mul] at h2
    have h5 : m = n * 2 ^ (q - p).toNat := Rat.natCast_inj.1 h2
    have h6 := nearest_shift f s n q (q - p).toNat
    rw [h5, ← h6]
    congr 1
    omega
  rcases Int.le_total p q with hle | hle
  · exact key hle h
  · exact (key hle h.symm).symm
/-- a square, in doubles and narrowed, is the square in singles -/
theorem sq_same {p Y : Nat} (hp : sf p) (h0 : sv p ≠ 0) (hY : df Y) (hv : dv Y = sv p * sv p) : dn Y = fmul .f32 p p := by
  obtain ⟨s, m, e, e1, v1, _⟩ := read_rv hp
  obtain ⟨t, n, q, e2, v2, _⟩ := read_rv hY
  rw [dn_form e2, mul_form .f32 e1 e1]
  have hs : (s ^^ s) = false := by cases s <;> rfl
  have e3 : sv p * sv p = ((m * m : Nat) : Rat) * 2 ^ (e + e) := by
    show rv single p * rv single p = _
    rw [v1, Rat.natCast_mul, zp_add]
    cases s <;> simp [sgR] <;> grind
  have hpos : 0 < sv p * sv p := by
    have h1 := sq_nonneg (sv p)
    refine Rat.not_le.1 fun hle => ?_
    have h2 : sv p * sv p = 0 := by grind
    rcases Rat.mul_eq_zero.1 h2 with h3 | h3 <;> exact h0 h3
  have hn := zp_two n q
  have ht : t = false := by
    cases t
    · rfl
    · exfalso
      have v2 : dv Y = -((n : Rat) * 2 ^ q) := v2
      rw [v2] at hv
      grind
  subst ht
  have v2 : dv Y = (n : Rat) * 2 ^ q := v2
  rw [hs]
  refine nearest_val ?_
  show (n : Rat) * 2 ^ q = ((m * m : Nat) : Rat) * 2 ^ (e + e)
  rw [← v2, hv, e3]

theorem read_under {f : Format} {x : Nat} (h : fnt f x) : ∃ s m e, f.read x = .number s m e ∧ rv f x = sgR s ((m : Nat) * (2 : Rat) ^ e) ∧ f.leastPlace ≤ e ∧ m < 2 ^ (f.fractionBits + 1) := by
  have e : f.read x = if rung f x < f.binade then .number (sign f x) (rung f x) f.leastPlace else if rung f x < f.infRung then .number (sign f x) (f.binade + rung f x % f.binade) (f.leastPlace + (rung f x / f.binade - 1 : Nat)) else if rung f x = f.infRung then .infinity (sign f x) else .nan (sign f x) (rung f x - f.infRung) := rfl
  have h2 : 2 ^ (f.fractionBits + 1) = f.binade * 2 := by unfold Format.binade; rw [Nat.pow_succ]
  have hB := fB f
  by_cases hb : rung f x < f.binade
  · rw [if_pos hb] at e
    exact ⟨_, _, _, e, rv_read h e, Int.le_refl _, by omega⟩
  · rw [if_neg hb, if_pos (show rung f x < f.infRung from h)] at e
    have := Nat.mod_lt (rung f x) hB
    exact ⟨_, _, _, e, rv_read h e, by omega, by omega⟩
theorem add_zero_rv (k : FloatKind) {p : Nat} (hp : fnt k.format p) (h1 : -1000000000 ≤ rv k.format p) (h2 : rv k.format p ≤ 1000000000) :
    (fnt k.format (fadd k 0 p) ∧ rv k.format (fadd k 0 p) = rv k.format p) ∧ fnt k.format (fadd k p 0) ∧ rv k.format (fadd k p 0) = rv k.format p := by
  have z0 : rv k.format 0 = 0 := zero_rv _
  have zf : fnt k.format 0 := by cases k <;> (unfold fnt; decide)
  have ht : (1000000000 : Rat) ≤ 2 ^ (top k) := by
    cases k
    · exact topS (by decide)
    · exact topD (by decide)
  have hr : rabs (rv k.format p) ≤ 2 ^ (top k) := Rat.le_trans (rabs_le h1 h2) ht
  obtain ⟨s, m, e, r1, r2, r3, r4⟩ := read_under hp
  have hm : rabs (rv k.format p) = (m : Rat) * 2 ^ e := by rw [r2]; exact rabs_sg (zp_two _ _)
  have e1 : rv k.format 0 + rv k.format p = rv k.format p := by rw [z0]; grind
  have e2 : rv k.format p + rv k.format 0 = rv k.format p := by rw [z0]; grind
  have a := fadd_rd k zf hp (by rw [e1]; exact hr)
  have b := fadd_rd k hp zf (by rw [e2]; exact hr)
  rw [e1] at a
  rw [e2] at b
  exact ⟨⟨a.fin, a.exact m e hm r4 r3⟩, b.fin, b.exact m e hm r4 r3⟩
theorem sq_exact {p : Nat} (hp : sf p) (h : -200000000 ≤ sv p * sv p ∧ sv p * sv p ≤ 200000000) : df (fmul .f64 (up p) (up p)) ∧ dv (fmul .f64 (up p) (up p)) = sv p * sv p := by
  obtain ⟨up1, up2⟩ := conv_up hp
  obtain ⟨s, m, e, r1, r2, r3, r4⟩ := read_under hp
  have r2 : sv p = sgR s ((m : Nat) * (2 : Rat) ^ e) := r2
  have r3 : -149 ≤ e := r3
  have r4 : m < 2 ^ 24 := r4
  have eq : rv FloatKind.f64.format (up p) * rv FloatKind.f64.format (up p) = sv p * sv p := by
    show dv (up p) * dv (up p) = _
    rw [up2]
  have hr := fmul_rd .f64 up1 up1 (by rw [eq]; exact topD (rabs_le (by grind) (by grind)))
  rw [eq] at hr
  have hm : rabs (sv p * sv p) = ((m * m : Nat) : Rat) * 2 ^ (e + e) := by
    have e3 : sv p * sv p = ((m * m : Nat) : Rat) * 2 ^ (e + e) := by
      rw [r2, Rat.natCast_mul, zp_add]
      cases s <;> simp [sgR] <;> grind
    rw [e3]
    exact rabs_sg (s := false) (zp_two _ _)
  have hmm : m * m < 2 ^ 53 := by
    have : m * m ≤ 2 ^ 24 * 2 ^ 24 := Nat.mul_le_mul (by omega) (by omega)
    omega
  exact ⟨hr.fin, hr.exact _ _ hm hmm (by show (-1074 : Int) ≤ _; omega)⟩
theorem zero_two : dn (pwW (fadd .f32 0 0) 0) = fmul .f32 (fadd .f32 0 0) (fadd .f32 0 0) ∧ dn (pwW (fadd .f32 0 2147483648) 0) = fmul .f32 (fadd .f32 0 2147483648) (fadd .f32 0 2147483648) ∧
    fconvOk .f64 .f32 (pwW (fadd .f32 0 0) 0) = true ∧ fconvOk .f64 .f32 (pwW (fadd .f32 0 2147483648) 0) = true := by decide +kernel
theorem zero_add : fadd .f32 0 0 = 0 ∧ fadd .f32 0 2147483648 = 0 ∧ finM 0 = true ∧ fmul .f64 (up 0) (up 0) = 0 := by decide +kernel
section
variable {a : List Nat} {n : Nat}
/-- what LeadOf and TogetherOf are told of a series and itself -/
structure Lead (u v : Nat) : Prop where
  hl : sf u ∧ sf v
  hu : fconvOk .f64 .f32 (muU u v u (fneg .f32 v)) = true
  hv : fconvOk .f64 .f32 (muV u v u (fneg .f32 v)) = true
  hp : dn (muU u v u (fneg .f32 v)) = dn (pwW u v)
  hq : dn (muV u v u (fneg .f32 v)) = 0 ∨ dn (muV u v u (fneg .f32 v)) = 2147483648
  hs : sf (dn (pwW u v)) ∧ 0 ≤ sv (dn (pwW u v))
  hw : fconvOk .f64 .f32 (pwW u v) = true
  hz : ∀ q, q = 0 ∨ q = 2147483648 → fconvOk .f64 .f32 (pwW (fadd .f32 0 (dn (pwW u v))) (fadd .f32 0 q)) = true ∧ dn (pwW (fadd .f32 0 (dn (pwW u v))) (fadd .f32 0 q)) = fmul .f32 (fadd .f32 0 (dn (pwW u v))) (fadd .f32 0 (dn (pwW u v)))
  hc : finM (fadd .f32 0 (dn (pwW u v))) = true
  hd : sf (fmul .f32 (fadd .f32 0 (dn (pwW u v))) (fadd .f32 0 (dn (pwW u v))))
theorem lead_of {u v : Nat} (hu : sf u) (hv : sf v) (bu : -81 ≤ sv u ∧ sv u ≤ 81) (bv : -81 ≤ sv v ∧ sv v ≤ 81) : Lead u v := by
  obtain ⟨w1, w2, ⟨w3, w4⟩, w5⟩ := pw_near (L := 81) hu hv ⟨by decide, by decide⟩ bu bv
  obtain ⟨m1, m2⟩ := mu_back hu hv ⟨by grind, by grind⟩ ⟨by grind, by grind⟩
  have sq : ∀ {x : Rat}, -81 ≤ x ∧ x ≤ 81 → 0 ≤ x * x ∧ x * x ≤ 6561 := fun {x} h => by
    refine ⟨sq_nonneg x, ?_⟩
    have := Rat.mul_nonneg (show 0 ≤ 81 - x by grind) (show 0 ≤ 81 + x by grind)
    grind
  have su := sq bu
  have sv2 := sq bv
  have hp0 : 0 ≤ sv (dn (pwW u v)) := by
    obtain ⟨uu, vu⟩ := conv_up hu
    obtain ⟨uv, vv⟩ := conv_up hv
    have x1 := fmul_rd .f64 (x := up u) (y := up u) uu uu (topD (by rw [show rv FloatKind.f64.format (up u) = sv u from vu]; exact rabs_le (by grind) (by grind)))
    have x2 := fmul_rd .f64 (x := up v) (y := up v) uv uv (topD (by rw [show rv FloatKind.f64.format (up v) = sv v from vv]; exact rabs_le (by grind) (by grind)))
    have y1 : 0 ≤ dv (fmul .f64 (up u) (up u)) := x1.pos (by rw [show rv FloatKind.f64.format (up u) = sv u from vu]; exact su.1)
    have y2 : 0 ≤ dv (fmul .f64 (up v) (up v)) := x2.pos (by rw [show rv FloatKind.f64.format (up v) = sv v from vv]; exact sv2.1)
    have small : (6561 : Rat) * e53 + eta ≤ 1 := by decide +kernel
    obtain ⟨p1, p2, p3⟩ := d_mul (B := 6561) uu uu (by rw [vu]; grind) (by rw [vu]; grind) (by decide)
    obtain ⟨q1, q2, q3⟩ := d_mul (B := 6561) uv uv (by rw [vv]; grind) (by rw [vv]; grind) (by decide)
    rw [vu] at p2 p3
    rw [vv] at q2 q3
    have x3 := fadd_rd .f64 (x := fmul .f64 (up u) (up u)) (y := fmul .f64 (up v) (up v)) p1 q1 (topD (rabs_le (by show _ ≤ dv _ + dv _; grind) (by show dv _ + dv _ ≤ _; grind)))
    have y3 : 0 ≤ dv (pwW u v) := x3.pos (by show 0 ≤ dv _ + dv _; grind)
    have small2 : (13125 : Rat) * e53 + eta ≤ 1 := by decide +kernel
    obtain ⟨r1, r2, r3⟩ := d_add (B := 13125) p1 q1 (by grind) (by grind) (by decide)
    have eW : dv (pwW u v) = dv (fadd .f64 (fmul .f64 (up u) (up u)) (fmul .f64 (up v) (up v))) := rfl
    exact (conv_down w1 (by grind) (by rw [eW]; grind)).pos y3
  have hw : sv (dn (pwW u v)) ≤ 14000 := by grind
  have e1 := mu_self hu hv
  -- what is added to nothing
  have hp' : sf (fadd .f32 0 (dn (pwW u v))) ∧ sv (fadd .f32 0 (dn (pwW u v))) = sv (dn (pwW u v)) := by
    exact (add_zero_rv .f32 w2 (by show _ ≤ sv _; grind) (by show sv _ ≤ _; grind)).1
  obtain ⟨p1, p2⟩ := hp'
  obtain ⟨z1, z2, z3, z4⟩ := zero_add
  obtain ⟨y1, y2, y3, y4⟩ := zero_two
  have small : (200000000 : Rat) * e24 + eta ≤ 100 := by decide +kernel
  have psq : -200000000 ≤ sv (fadd .f32 0 (dn (pwW u v))) * sv (fadd .f32 0 (dn (pwW u v))) ∧ sv (fadd .f32 0 (dn (pwW u v))) * sv (fadd .f32 0 (dn (pwW u v))) ≤ 200000000 := by
    rw [p2]
    have := sq_nonneg (sv (dn (pwW u v)))
    have := mul_mono hp0 hp0 hw hw
    exact ⟨by grind, by grind⟩
  have hd := (s_mul (B := 200000000) p1 p1 psq.1 psq.2 (by decide)).1
  refine ⟨⟨hu, hv⟩, by rw [e1]; exact w5, m1, by rw [e1], m2, ⟨w2, hp0⟩, w5, fun q hq => ?_, (finM_sf _).2 p1, hd⟩
  have eq : fadd .f32 0 q = 0 := by rcases hq with e | e <;> rw [e]; exact z1; exact z2
  rw [eq]
  by_cases h0 : sv (dn (pwW u v)) = 0
  · obtain ⟨s, m, e, r1, _⟩ := read_rv w1
    rcases zero_word (dn_form r1) w2 h0 with h | h <;> rw [h]
    · exact ⟨y3, y1⟩
    · exact ⟨y4, y2⟩
  · generalize hP : fadd .f32 0 (dn (pwW u v)) = p at *
    obtain ⟨up1, up2⟩ := conv_up p1
    -- the square in doubles is exact
    have hX : df (fmul .f64 (up p) (up p)) ∧ dv (fmul .f64 (up p) (up p)) = sv p * sv p := sq_exact p1 psq
    have hY : df (pwW p 0) ∧ dv (pwW p 0) = sv p * sv p := by
      unfold pwW
      rw [z4]
      have h := (add_zero_rv .f64 hX.1 (by show _ ≤ dv _; rw [hX.2]; grind) (by show dv _ ≤ _; rw [hX.2]; grind)).2
      exact ⟨h.1, h.2.trans hX.2⟩
    have hn := sq_same p1 (by rw [p2]; exact h0) hY.1 hY.2
    exact ⟨narrowF (by show sf (dn _); rw [hn]; exact hd), hn⟩
end

end Go.Proofs.LV
