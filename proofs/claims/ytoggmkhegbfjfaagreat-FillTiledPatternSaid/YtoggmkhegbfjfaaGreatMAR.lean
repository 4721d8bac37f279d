/- Blending, both texts: the color as a whole; all modes. -/
import Derived.Test.YtoggmkhegbfjfaaGreatMAQ
import Derived.Test.YtoggmkhegbfjfaaGreatMAP
namespace Go.Gs
open Go.Proofs

def c3E (c : C3) : List SV := [i64 c.r, i64 c.g, i64 c.b]
def rpE (c : C3) (t l a : Int) : List SV := [i64 c.r, i64 c.g, i64 c.b, i64 t, i64 l, i64 a]
structure Rp (c : C3) (t l a : Int) : Prop where
  ok : c.ok a
  pt : 0 ≤ t ∧ t ≤ a
  pl : 0 ≤ l ∧ l ≤ 100 * a
  pa : 0 ≤ a ∧ a ≤ 65025
structure Fb (x : Int) (c : C3) (t l a : Int) : Prop where
  p0 : 0 ≤ c.low ∧ c.low ≤ c.high ∧ c.high ≤ 65025 ∧ 0 ≤ c.sat ∧ c.sat ≤ 65025 ∧ 100 * c.low ≤ c.lum ∧ c.lum ≤ 100 * c.high ∧ c.low ≤ x ∧ x ≤ c.high
  p1 : 0 ≤ l * c.sat ∧ l * c.sat ≤ 422825062500
  p2 : 0 ≤ t * (c.lum - 100 * c.low) ∧ t * (c.lum - 100 * c.low) ≤ 422825062500
  p3 : 0 ≤ 100 * c.sat * t ∧ 100 * c.sat * t ≤ 422825062500
  p4 : 0 ≤ 100 * a * c.sat ∧ 100 * a * c.sat ≤ 422825062500
  p5 : 0 ≤ l * (x - c.low) ∧ l * (x - c.low) ≤ 422825062500
  p6 : 0 ≤ a * (100 * c.high - c.lum) ∧ a * (100 * c.high - c.lum) ≤ 422825062500
  p7 : 0 ≤ (100 * a - l) * (c.high - x) ∧ (100 * a - l) * (c.high - x) ≤ 422825062500
  p8 : 0 ≤ 100 * (x - c.low) * t ∧ 100 * (x - c.low) * t ≤ 422825062500
theorem rp_fb {x : Int} {c : C3} {t l a : Int} (h : Rp c t l a) (hx : c.low ≤ x ∧ x ≤ c.high) : Fb x c t l a := by
  obtain ⟨hc, ⟨t1, t2⟩, ⟨l1, l2⟩, a1, a2⟩ := h
  obtain ⟨s1, s2, s3, s4, s5, s6, s7, s8, s9⟩ := hc.sat
  exact ⟨⟨s1, s2, by omega, s4, by omega, s6, s7, hx.1, hx.2⟩, mulb (A := 6502500) (B := 65025) l1 (by omega) s4 (by omega), mulb (A := 65025) (B := 6502500) t1 (by omega) (by omega) (by omega),
    mulb (A := 6502500) (B := 65025) (by omega) (by omega) t1 (by omega), mulb (A := 6502500) (B := 65025) (by omega) (by omega) s4 (by omega), mulb (A := 6502500) (B := 65025) l1 (by omega) (by omega) (by omega),
    mulb (A := 65025) (B := 6502500) a1 a2 (by omega) (by omega), mulb (A := 6502500) (B := 65025) (by omega) (by omega) (by omega) (by omega), mulb (A := 6502500) (B := 65025) (by omega) (by omega) t1 (by omega)⟩
def C3.le (c : C3) : Prop := c.ok 65025
theorem Rp.le {c : C3} {t l a : Int} (h : Rp c t l a) : c.le := by
  obtain ⟨⟨a1, a2, a3, a4, a5, a6⟩, _, _, _, h2⟩ := h
  exact ⟨a1, by omega, a3, by omega, a5, by omega⟩

theorem p_low (c : C3) : CallsG Tryz.prog 276 [.agg (c3E c)] [] (i64 c.low) [] := by
  refine calls_to tok mix Tryz.func276 rfl rfl rfl ?_
  exact LE_int (by show min (min c.r c.g) c.b = min c.r (min c.g c.b); omega)
theorem p_high (c : C3) : CallsG Tryz.prog 275 [.agg (c3E c)] [] (i64 c.high) [] := by
  refine calls_to tok mix Tryz.func275 rfl rfl rfl ?_
  exact LE_int (by show max (max c.r c.g) c.b = max c.r (max c.g c.b); omega)
theorem p_sat (c : C3) (h : c.le) : CallsG Tryz.prog 228 [.agg (c3E c)] [] (i64 c.sat) [] := by
  obtain ⟨s1, s2, s3, _⟩ := C3.ok.sat h
  refine calls_to tok mix Tryz.func228 rfl rfl rfl ?_
  refine Dr.mk (by decide +kernel) ?_
  refine CallV.to _ (p_high c) rfl ?_
  refine CallV.to _ (p_low c) rfl ?_
  refine Ar.fit (by omega) ?_
  exact .refl
theorem p_lum (c : C3) (h : c.le) : CallsG Tryz.prog 229 [.agg (c3E c)] [] (i64 c.lum) [] := by
  obtain ⟨a1, a2, a3, a4, a5, a6⟩ := h
  refine calls_to tok mix Tryz.func229 rfl rfl rfl ?_
  refine Ar.fit (by omega) ?_
  refine Ar.fit (by omega) ?_
  refine Ar.fit (by omega) ?_
  refine Ar.fit (by omega) ?_
  refine Ar.fit (by omega) ?_
  exact .refl
theorem p_times (p : Pix) (n : Int) (hp : P8 p) (hn : R8 n) : CallsG Tryz.prog 162 [.agg (pixE p), i64 n] [] (.agg (c3E (timesC p n))) [] := by
  obtain ⟨⟨a1, a2⟩, ⟨b1, b2⟩, ⟨c1, c2⟩, _⟩ := hp
  unfold R8 at hn
  have m1 := mulb a1 a2 hn.1 hn.2
  have m2 := mulb b1 b2 hn.1 hn.2
  have m3 := mulb c1 c2 hn.1 hn.2
  refine calls_to tok mix Tryz.func162 rfl rfl rfl ?_
  refine Ar.fit (by omega) ?_
  refine Ar.fit (by omega) ?_
  refine Ar.fit (by omega) ?_
  refine Ar.fit (by omega) ?_
  refine Ar.fit (by omega) ?_
  refine Ar.fit (by omega) ?_
  exact .refl
theorem r_low (c : C3) : CallsG Tryz.prog 251 [.agg (c3E c)] [] (i64 c.low) [] := by
  refine calls_to tok mix Tryz.func251 rfl rfl rfl ?_
  exact LE_int (by show min (min c.r c.g) c.b = min c.r (min c.g c.b); omega)
theorem r_high (c : C3) : CallsG Tryz.prog 250 [.agg (c3E c)] [] (i64 c.high) [] := by
  refine calls_to tok mix Tryz.func250 rfl rfl rfl ?_
  exact LE_int (by show max (max c.r c.g) c.b = max c.r (max c.g c.b); omega)
theorem r_sat (c : C3) (h : c.le) : CallsG Tryz.prog 194 [.agg (c3E c)] [] (i64 c.sat) [] := by
  obtain ⟨s1, s2, s3, _⟩ := C3.ok.sat h
  refine calls_to tok mix Tryz.func194 rfl rfl rfl ?_
  refine Dr.mk (by decide +kernel) ?_
  refine CallV.to _ (r_high c) rfl ?_
  refine CallV.to _ (r_low c) rfl ?_
  refine Ar.fit (by omega) ?_
  exact .refl
theorem r_lum (c : C3) (h : c.le) : CallsG Tryz.prog 195 [.agg (c3E c)] [] (i64 c.lum) [] := by
  obtain ⟨a1, a2, a3, a4, a5, a6⟩ := h
  refine calls_to tok mix Tryz.func195 rfl rfl rfl ?_
  refine Ar.fit (by omega) ?_
  refine Ar.fit (by omega) ?_
  refine Ar.fit (by omega) ?_
  refine Ar.fit (by omega) ?_
  refine Ar.fit (by omega) ?_
  exact .refl
theorem r_times (p : Pix) (n : Int) (hp : P8 p) (hn : R8 n) : CallsG Tryz.prog 193 [.agg (pixE p), i64 n] [] (.agg (c3E (timesC p n))) [] := by
  obtain ⟨⟨a1, a2⟩, ⟨b1, b2⟩, ⟨c1, c2⟩, _⟩ := hp
  unfold R8 at hn
  have m1 := mulb a1 a2 hn.1 hn.2
  have m2 := mulb b1 b2 hn.1 hn.2
  have m3 := mulb c1 c2 hn.1 hn.2
  refine calls_to tok mix Tryz.func193 rfl rfl rfl ?_
  refine Ar.fit (by omega) ?_
  refine Ar.fit (by omega) ?_
  refine Ar.fit (by omega) ?_
  refine Ar.fit (by omega) ?_
  refine Ar.fit (by omega) ?_
  refine Ar.fit (by omega) ?_
  exact .refl
theorem fr0 {x : Int} {c : C3} {t l a : Int} (h : c.sat = 0) : fracN x c t l a = l ∧ fracD c t l a = 100 := ⟨if_pos h, if_pos h⟩
theorem fr1 {x : Int} {c : C3} {t l a : Int} (h : ¬ c.sat = 0) (k : l * c.sat < t * (c.lum - 100 * c.low)) : fracN x c t l a = l * (x - c.low) ∧ fracD c t l a = c.lum - 100 * c.low :=
  ⟨(if_neg h).trans (if_pos k), (if_neg h).trans (if_pos k)⟩
theorem fr2 {x : Int} {c : C3} {t l a : Int} (h : ¬ c.sat = 0) (k : ¬ l * c.sat < t * (c.lum - 100 * c.low)) (j : 100 * a * c.sat < 100 * c.sat * t + l * c.sat - t * (c.lum - 100 * c.low)) :
    fracN x c t l a = a * (100 * c.high - c.lum) - (100 * a - l) * (c.high - x) ∧ fracD c t l a = 100 * c.high - c.lum := ⟨(if_neg h).trans ((if_neg k).trans (if_pos j)), (if_neg h).trans ((if_neg k).trans (if_pos j))⟩
theorem fr3 {x : Int} {c : C3} {t l a : Int} (h : ¬ c.sat = 0) (k : ¬ l * c.sat < t * (c.lum - 100 * c.low)) (j : ¬ 100 * a * c.sat < 100 * c.sat * t + l * c.sat - t * (c.lum - 100 * c.low)) :
    fracN x c t l a = 100 * (x - c.low) * t + l * c.sat - t * (c.lum - 100 * c.low) ∧ fracD c t l a = 100 * c.sat := ⟨(if_neg h).trans ((if_neg k).trans (if_neg j)), (if_neg h).trans ((if_neg k).trans (if_neg j))⟩

set_option maxRecDepth 100000 in
theorem p_fr (x : Int) (c : C3) (t l a : Int) (h : Rp c t l a) (hx : c.low ≤ x ∧ x ≤ c.high) : CallsG Tryz.prog 230 [.agg (rpE c t l a), i64 x] [] (.tup [i64 (fracN x c t l a), i64 (fracD c t l a)]) [] := by
  obtain ⟨⟨z1, z2, z3, z4, z5, z6, z7, z8, z9⟩, ⟨a1, a2⟩, ⟨b1, b2⟩, ⟨c1, c2⟩, ⟨d1, d2⟩, ⟨e1, e2⟩, ⟨f1, f2⟩, ⟨g1, g2⟩, i1, i2⟩ := rp_fb h hx
  have hle := h.le
  obtain ⟨_, ⟨t1, t2⟩, ⟨l1, l2⟩, q1, q2⟩ := h
  refine calls_to tok mix Tryz.func230 rfl rfl rfl ?_
  refine Dr.mk (by decide +kernel) ?_
  refine CallV.to _ (p_sat c hle) rfl ?_
  refine CallV.to _ (p_low c) rfl ?_
  refine CallV.to _ (p_high c) rfl ?_
  refine Br.mk (fun k0 => LE_tup2 (LE_int (fr0 (x := x) k0).1.symm) (LE_int (fr0 (x := x) k0).2.symm)) (fun k0 => ?_)
  refine CallV.to _ (p_lum c hle) rfl ?_
  refine Ar.fit (by omega) ?_
  refine Ar.fit (by omega) ?_
  refine Ar.fit (by omega) ?_
  refine CallV.to _ (p_lum c hle) rfl ?_
  refine Ar.fit (by omega) ?_
  refine Ar.fit (by omega) ?_
  refine Ar.fit (by omega) ?_
  refine Ar.fit (by omega) ?_
  refine Br.mk (fun k1 => ?_) (fun k1 => ?_)
  · refine Ar.fit (by omega) ?_
    refine Ar.fit (by omega) ?_
    have e := fr1 (x := x) (a := a) (t := t) (l := l) k0 (by omega)
    exact LE_tup2 (LE_int e.1.symm) (LE_int e.2.symm)
  refine Ar.fit (by omega) ?_
  refine Ar.fit (by omega) ?_
  refine Ar.fit (by omega) ?_
  refine Ar.fit (by omega) ?_
  refine Ar.fit (by omega) ?_
  refine Br.mk (fun k2 => ?_) (fun k2 => ?_)
  · have e := fr2 (x := x) (a := a) (t := t) (l := l) k0 (by omega) (by omega)
    refine Ar.fit (by omega) ?_
    refine Ar.fit (by omega) ?_
    refine Ar.fit (by omega) ?_
    refine Ar.fit (by omega) ?_
    refine Ar.fit (by omega) ?_
    refine Ar.fit (by omega) ?_
    exact LE_tup2 (LE_int e.1.symm) (LE_int e.2.symm)
  · have e := fr3 (x := x) (a := a) (t := t) (l := l) k0 (by omega) (by omega)
    refine Ar.fit (by omega) ?_
    refine Ar.fit (by omega) ?_
    refine Ar.fit (by omega) ?_
    refine Ar.fit (by omega) ?_
    refine Ar.fit (by omega) ?_
    exact LE_tup2 (LE_int (by rw [e.1]; omega)) (LE_int e.2.symm)

set_option maxRecDepth 100000 in
theorem r_fr (x : Int) (c : C3) (t l a : Int) (h : Rp c t l a) (hx : c.low ≤ x ∧ x ≤ c.high) : CallsG Tryz.prog 196 [i64 x, .agg (c3E c), i64 t, i64 l, i64 a] [] (.tup [i64 (fracN x c t l a), i64 (fracD c t l a)]) [] := by
  obtain ⟨⟨z1, z2, z3, z4, z5, z6, z7, z8, z9⟩, ⟨a1, a2⟩, ⟨b1, b2⟩, ⟨c1, c2⟩, ⟨d1, d2⟩, ⟨e1, e2⟩, ⟨f1, f2⟩, ⟨g1, g2⟩, i1, i2⟩ := rp_fb h hx
  have hle := h.le
  obtain ⟨_, ⟨t1, t2⟩, ⟨l1, l2⟩, q1, q2⟩ := h
  refine calls_to tok mix Tryz.func196 rfl rfl rfl ?_
  refine CallV.to _ (r_sat c hle) rfl ?_
  refine Dr.mk (by decide +kernel) ?_
  refine CallV.to _ (r_lum c hle) rfl ?_
  refine CallV.to _ (r_low c) rfl ?_
  refine Ar.fit (by omega) ?_
  refine Ar.fit (by omega) ?_
  refine Br.mk (fun k0 => LE_tup2 (LE_int (fr0 (x := x) k0).1.symm) (LE_int (fr0 (x := x) k0).2.symm)) (fun k0 => ?_)
  refine Ar.fit (by omega) ?_
  refine Ar.fit (by omega) ?_
  refine Br.mk (fun k1 => ?_) (fun k1 => ?_)
  · refine CallV.to _ (r_low c) rfl ?_
    refine Ar.fit (by omega) ?_
    refine Ar.fit (by omega) ?_
    have e := fr1 (x := x) (a := a) k0 k1
    exact LE_tup2 (LE_int e.1.symm) (LE_int e.2.symm)
  refine Ar.fit (by omega) ?_
  refine Ar.fit (by omega) ?_
  refine Ar.fit (by omega) ?_
  refine Ar.fit (by omega) ?_
  refine Ar.fit (by omega) ?_
  refine Ar.fit (by omega) ?_
  refine Ar.fit (by omega) ?_
  refine Ar.fit (by omega) ?_
  refine Br.mk (fun k2 => ?_) (fun k2 => ?_)
  · have e := fr2 (x := x) (a := a) k0 k1 k2
    refine Dr.mk (by decide +kernel) ?_
    refine CallV.to _ (r_high c) rfl ?_
    refine Ar.fit (by omega) ?_
    refine CallV.to _ (r_lum c hle) rfl ?_
    refine Ar.fit (by omega) ?_
    refine Ar.fit (by omega) ?_
    refine Ar.fit (by omega) ?_
    refine Ar.fit (by omega) ?_
    refine CallV.to _ (r_high c) rfl ?_
    refine Ar.fit (by omega) ?_
    refine Ar.fit (by omega) ?_
    refine Ar.fit (by omega) ?_
    exact LE_tup2 (LE_int e.1.symm) (LE_int e.2.symm)
  · have e := fr3 (x := x) (a := a) k0 k1 k2
    refine CallV.to _ (r_low c) rfl ?_
    refine Ar.fit (by omega) ?_
    refine Ar.fit (by omega) ?_
    refine Ar.fit (by omega) ?_
    refine Ar.fit (by omega) ?_
    refine Ar.fit (by omega) ?_
    refine Ar.fit (by omega) ?_
    refine Ar.fit (by omega) ?_
    refine Ar.fit (by omega) ?_
    exact LE_tup2 (LE_int e.1.symm) (LE_int e.2.symm)

theorem mix8_eq {base n d : Int} (hd : 0 < d) (h : 0 ≤ base * d + n) : rdiv (base * d + n) (255 * d) = mix8 base n d := by
  unfold mix8
  rw [rdivp h (by omega)]
  congr 1; omega
/-- What is known of a mixed component. -/
structure Mx (base n d : Int) : Prop where
  d0 : 0 < d
  d1 : d ≤ 6502600
  n0 : 0 ≤ n
  n1 : n ≤ 900000000000
  b0 : 0 ≤ base
  b1 : base ≤ 130050
  m : 0 ≤ mix8 base n d ∧ mix8 base n d ≤ 255
theorem r_mixed (base n d : Int) (h : Mx base n d) : CallsG Tryz.prog 197 [i64 base, i64 n, i64 d] [] (u8 (mix8 base n d)) [] := by
  obtain ⟨h1, h2, h3, h4, h5, h6, h7, h8⟩ := h
  have hm := mulb h5 h6 (show 0 ≤ d by omega) h2
  have e := mix8_eq h1 (base := base) (n := n) (by omega)
  have e2 : fitI (rdiv (base * d + n) (255 * d)) = mix8 base n d := by rw [e]; unfold fitI; rw [if_pos (by omega)]
  refine calls_to tok mix Tryz.func197 rfl rfl rfl ?_
  refine Ar.fit (by omega) ?_
  refine Ar.fit (by omega) ?_
  refine Ar.fit (by omega) ?_
  refine CallV.to _ (r8_divround (base * d + n) (255 * d) (by unfold R64; omega) (by unfold R64; omega)) rfl ?_
  rw [e2]
  refine Ar.fit (by omega) ?_
  exact .refl
theorem p_rchan (base x : Int) (c : C3) (t l a : Int) (h : Rp c t l a) (hx : c.low ≤ x ∧ x ≤ c.high) (hm : Mx base (fracN x c t l a) (fracD c t l a)) :
    CallsG Tryz.prog 164 [.agg (rpE c t l a), i64 base, i64 x] [] (u8 (mix8 base (fracN x c t l a) (fracD c t l a))) [] := by
  have hf := p_fr x c t l a h hx
  generalize fracN x c t l a = n at *
  generalize fracD c t l a = d at *
  obtain ⟨h1, h2, h3, h4, h5, h6, h7, h8⟩ := hm
  have hm := mulb h5 h6 (show 0 ≤ d by omega) h2
  refine calls_to tok mix Tryz.func164 rfl rfl rfl ?_
  refine CallV.to _ hf rfl ?_
  refine Ar.fit (by omega) ?_
  refine Ar.fit (by omega) ?_
  refine Ar.fit (by omega) ?_
  refine Ar.fit (by omega) ?_
  refine Ar.fit (by omega) ?_
  refine Ar.fit (by omega) ?_
  refine Dv.pos ⟨by omega, by omega, by show _ ≤ (9223372036854775807 : Int); omega⟩ ?_
  have e : (2 * (base * d + n) + 255 * d) / (510 * d) = mix8 base n d := rfl
  rw [e]
  refine Ar.fit (by omega) ?_
  exact .refl

theorem mx_of {mode : Int} {s d : Pix} (hs : pxOK s) (h8 : P8 s) (hd : pxOK d) (k8 : P8 d) {x y : Int} {f : C3 → Int} (hx : 0 ≤ x ∧ x ≤ s.a) (hy : 0 ≤ y ∧ y ≤ d.a) (hf : ∀ c : C3, c.low ≤ f c ∧ f c ≤ c.high) :
    Mx (baseC x y s.a d.a) (fracN (f (recC mode (timesC s d.a) (timesC d s.a))) (recC mode (timesC s d.a) (timesC d s.a)) (recT mode (timesC s d.a) (timesC d s.a)) (recL mode (timesC s d.a) (timesC d s.a)) (s.a * d.a))
      (fracD (recC mode (timesC s d.a) (timesC d s.a)) (recT mode (timesC s d.a) (timesC d s.a)) (recL mode (timesC s d.a) (timesC d s.a)) (s.a * d.a)) := by
  obtain ⟨o1, o2, o3⟩ := rec_ok mode hs h8 hd k8
  obtain ⟨f1, f2, f3, f4⟩ := frac_ok o1 (hf _) o2 o3
  have w1 := whole1_le (mode := mode) hs h8 hd k8 hx hy hf
  have r1 := h8.2.2.2
  have r2 := k8.2.2.2
  have al := dn8_8 (s.a * (255 - d.a) + d.a * (255 - s.a) + s.a * d.a)
  have w2 : whole1 mode s d x y f ≤ 255 := Int.le_trans w1.2 al.2
  unfold R8 at r1 r2
  have m1 := mulb (a := x) (b := 255 - d.a) (A := 255) (B := 255) hx.1 (by omega) (by omega) (by omega)
  have m2 := mulb (a := y) (b := 255 - s.a) (A := 255) (B := 255) hy.1 (by omega) (by omega) (by omega)
  have m3 := mulb r1.1 r1.2 r2.1 r2.2
  have m4 := mulb m3.1 m3.2 (Int.le_of_lt f1) (Int.le_trans f2 (show 100 * (s.a * d.a) + 100 ≤ 6502600 by omega))
  exact ⟨f1, by omega, f3, by omega, by unfold baseC; omega, by unfold baseC; omega, w1.1, w2⟩
theorem rp_of {mode : Int} {s d : Pix} (hs : pxOK s) (h8 : P8 s) (hd : pxOK d) (k8 : P8 d) : Rp (recC mode (timesC s d.a) (timesC d s.a)) (recT mode (timesC s d.a) (timesC d s.a)) (recL mode (timesC s d.a) (timesC d s.a)) (s.a * d.a) := by
  obtain ⟨o1, o2, o3⟩ := rec_ok mode hs h8 hd k8
  have r1 := h8.2.2.2
  have r2 := k8.2.2.2
  unfold R8 at r1 r2
  exact ⟨o1, o2, o3, mulb r1.1 r1.2 r2.1 r2.2⟩

theorem p_recipe (mode : Int) (s d : C3) (a : Int) (hs : s.le) (hd : d.le) (hm : 10 ≤ mode ∧ mode ≤ 13) : CallsG Tryz.prog 161 [i64 mode, .agg (c3E s), .agg (c3E d), i64 a] []
    (.agg (rpE (recC mode s d) (recT mode s d) (recL mode s d) a)) [] := by
  refine calls_to tok mix Tryz.func161 rfl rfl rfl ?_
  refine Br.mk (fun k => ?_) (fun k0 => ?_)
  · subst k
    refine Dr.mk (by decide +kernel) ?_
    refine CallV.to _ (p_sat d hd) rfl ?_
    refine CallV.to _ (p_lum d hd) rfl ?_
    exact .refl
  refine Br.mk (fun k => ?_) (fun k1 => ?_)
  · subst k
    refine Dr.mk (by decide +kernel) ?_
    refine CallV.to _ (p_sat s hs) rfl ?_
    refine CallV.to _ (p_lum d hd) rfl ?_
    exact .refl
  refine Br.mk (fun k => ?_) (fun k2 => ?_)
  · subst k
    refine Dr.mk (by decide +kernel) ?_
    refine CallV.to _ (p_sat s hs) rfl ?_
    refine CallV.to _ (p_lum d hd) rfl ?_
    exact .refl
  have k : mode = 13 := by omega
  subst k
  refine Dr.mk (by decide +kernel) ?_
  refine CallV.to _ (p_sat d hd) rfl ?_
  refine CallV.to _ (p_lum s hs) rfl ?_
  exact .refl

theorem p_base (x y sa da : Int) (hx : R8 x) (hy : R8 y) (hs : R8 sa) (hd : R8 da) : CallsG Tryz.prog 163 [u8 x, u8 y, .ptr [i64 da], .ptr [i64 sa]] [] (i64 (baseC x y sa da)) [] := by
  unfold R8 at hx hy hs hd
  have m1 := mulb (a := x) (b := 255 - da) (A := 255) (B := 255) hx.1 (by omega) (by omega) (by omega)
  have m2 := mulb (a := y) (b := 255 - sa) (A := 255) (B := 255) hy.1 (by omega) (by omega) (by omega)
  refine calls_to tok mix Tryz.func163 rfl rfl rfl ?_
  refine Ar.fit (by omega) ?_
  refine Ar.fit (by omega) ?_
  refine Ar.fit (by omega) ?_
  refine Ar.fit (by omega) ?_
  refine Ar.fit (by omega) ?_
  refine Ar.fit (by omega) ?_
  refine Ar.fit (by omega) ?_
  exact .refl

theorem tc_le {p : Pix} {n : Int} (hp : pxOK p) (h8 : P8 p) (hn : R8 n) : (timesC p n).le := by
  have o := timesC_ok hp h8 hn.1
  have r1 := h8.2.2.2
  unfold R8 at r1 hn
  have := mulb r1.1 r1.2 hn.1 hn.2
  obtain ⟨a1, a2, a3, a4, a5, a6⟩ := o
  exact ⟨a1, by omega, a3, by omega, a5, by omega⟩
set_option maxRecDepth 100000 in
set_option maxHeartbeats 4000000 in
theorem p_whole (mode : Int) (s d : Pix) (hs : pxOK s) (h8 : P8 s) (hd : pxOK d) (k8 : P8 d) (hm : 10 ≤ mode ∧ mode ≤ 13) : CallsG Tryz.prog 108 [i64 mode, .agg (pixE s), .agg (pixE d)] [] (.agg (pixE (wholeP mode s d))) [] := by
  have rp := rp_of (mode := mode) hs h8 hd k8
  have xr := mx_of (mode := mode) hs h8 hd k8 (x := s.r) (y := d.r) ⟨h8.1.1, hs.1⟩ ⟨k8.1.1, hd.1⟩ C3.at_r
  have xg := mx_of (mode := mode) hs h8 hd k8 (x := s.g) (y := d.g) ⟨h8.2.1.1, hs.2.1⟩ ⟨k8.2.1.1, hd.2.1⟩ C3.at_g
  have xb := mx_of (mode := mode) hs h8 hd k8 (x := s.b) (y := d.b) ⟨h8.2.2.1.1, hs.2.2⟩ ⟨k8.2.2.1.1, hd.2.2⟩ C3.at_b
  have ra := h8.2.2.2
  have rb := k8.2.2.2
  have ra' := ra
  have rb' := rb
  unfold R8 at ra' rb'
  have m1 := mulb (a := s.a) (b := 255 - d.a) (A := 255) (B := 255) ra'.1 ra'.2 (by omega) (by omega)
  have m2 := mulb (a := d.a) (b := 255 - s.a) (A := 255) (B := 255) rb'.1 rb'.2 (by omega) (by omega)
  have m3 := mulb ra'.1 ra'.2 rb'.1 rb'.2
  refine calls_to tok mix Tryz.func108 rfl rfl rfl ?_
  refine Dr.dyn ?_
  refine Ob.mk (by decide +kernel) ?_
  refine Ar.fit (by omega) ?_
  refine Ar.fit (by omega) ?_
  refine Ob.mk (by kernel_rfl) ?_
  refine Dr.dyn ?_
  refine Ob.mk (by decide +kernel) ?_
  refine CallV.to _ (p_times s d.a h8 rb) rfl ?_
  refine CallV.to _ (p_times d s.a k8 ra) rfl ?_
  refine Ar.fit (by omega) ?_
  refine CallV.to _ (p_recipe mode (timesC s d.a) (timesC d s.a) (s.a * d.a) (tc_le hs h8 rb) (tc_le hd k8 ra) hm) rfl ?_
  refine Ob.mk (by kernel_rfl) ?_
  refine Dr.dyn ?_
  refine Ob.mk (by decide +kernel) ?_
  refine CallV.to _ (p_base s.r d.r s.a d.a h8.1 k8.1 ra rb) rfl ?_
  refine CallV.to _ (p_rchan _ _ _ _ _ _ rp (C3.at_r _) xr) rfl ?_
  refine CallV.to _ (p_base s.g d.g s.a d.a h8.2.1 k8.2.1 ra rb) rfl ?_
  refine CallV.to _ (p_rchan _ _ _ _ _ _ rp (C3.at_g _) xg) rfl ?_
  refine CallV.to _ (p_base s.b d.b s.a d.a h8.2.2.1 k8.2.2.1 ra rb) rfl ?_
  refine CallV.to _ (p_rchan _ _ _ _ _ _ rp (C3.at_b _) xb) rfl ?_
  refine Ar.fit (by omega) ?_
  refine Ar.fit (by omega) ?_
  refine Ar.fit (by omega) ?_
  refine Ar.fit (by omega) ?_
  refine Ar.fit (by omega) ?_
  refine Ar.fit (by omega) ?_
  refine Ar.fit (by omega) ?_
  refine CallV.to _ (p_dn8 (s.a * (255 - d.a) + d.a * (255 - s.a) + s.a * d.a) (by omega)) rfl ?_
  refine Ob.mk (by kernel_rfl) ?_
  exact .refl

set_option maxRecDepth 100000 in
set_option maxHeartbeats 4000000 in
theorem r_whole10 (s d : Pix) (hs : pxOK s) (h8 : P8 s) (hd : pxOK d) (k8 : P8 d) : CallsG Tryz.prog 139 [i64 10, .agg (pixE s), .agg (pixE d)] [] (.agg (pixE (wholeP 10 s d))) [] := by
  have rp := rp_of (mode := 10) hs h8 hd k8
  have xr := mx_of (mode := 10) hs h8 hd k8 (x := s.r) (y := d.r) ⟨h8.1.1, hs.1⟩ ⟨k8.1.1, hd.1⟩ C3.at_r
  have xg := mx_of (mode := 10) hs h8 hd k8 (x := s.g) (y := d.g) ⟨h8.2.1.1, hs.2.1⟩ ⟨k8.2.1.1, hd.2.1⟩ C3.at_g
  have xb := mx_of (mode := 10) hs h8 hd k8 (x := s.b) (y := d.b) ⟨h8.2.2.1.1, hs.2.2⟩ ⟨k8.2.2.1.1, hd.2.2⟩ C3.at_b
  have ra := h8.2.2.2
  have rb := k8.2.2.2
  have ra' := ra
  have rb' := rb
  unfold R8 at ra' rb'
  have w1 := h8.1
  have w2 := h8.2.1
  have w3 := h8.2.2.1
  have v1 := k8.1
  have v2 := k8.2.1
  have v3 := k8.2.2.1
  unfold R8 at w1 w2 w3 v1 v2 v3
  have m1 := mulb (a := s.a) (b := 255 - d.a) (A := 255) (B := 255) ra'.1 ra'.2 (by omega) (by omega)
  have m2 := mulb (a := d.a) (b := 255 - s.a) (A := 255) (B := 255) rb'.1 rb'.2 (by omega) (by omega)
  have m3 := mulb ra'.1 ra'.2 rb'.1 rb'.2
  have n1 := mulb (a := s.r) (b := 255 - d.a) (A := 255) (B := 255) w1.1 w1.2 (by omega) (by omega)
  have n2 := mulb (a := s.g) (b := 255 - d.a) (A := 255) (B := 255) w2.1 w2.2 (by omega) (by omega)
  have n3 := mulb (a := s.b) (b := 255 - d.a) (A := 255) (B := 255) w3.1 w3.2 (by omega) (by omega)
  have n4 := mulb (a := d.r) (b := 255 - s.a) (A := 255) (B := 255) v1.1 v1.2 (by omega) (by omega)
  have n5 := mulb (a := d.g) (b := 255 - s.a) (A := 255) (B := 255) v2.1 v2.2 (by omega) (by omega)
  have n6 := mulb (a := d.b) (b := 255 - s.a) (A := 255) (B := 255) v3.1 v3.2 (by omega) (by omega)
  have ls := tc_le hs h8 rb
  have ld := tc_le hd k8 ra
  refine calls_to tok mix Tryz.func139 rfl rfl rfl ?_
  refine Dr.mk (by decide +kernel) ?_
  refine Ar.fit (by omega) ?_
  refine Ar.fit (by omega) ?_
  refine Dr.dyn ?_
  refine Ob.mk (by decide +kernel) ?_
  refine CallV.to _ (r_times s d.a h8 rb) rfl ?_
  refine CallV.to _ (r_times d s.a k8 ra) rfl ?_
  refine Ob.mk (by kernel_rfl) ?_
  refine Dr.dyn ?_
  refine Ob.mk (by decide +kernel) ?_
  refine CallV.to _ (r_sat _ ld) rfl ?_
  refine CallV.to _ (r_lum _ ld) rfl ?_
  refine Ob.mk (by kernel_rfl) ?_
  refine Br.mk (fun k => absurd k (by decide)) (fun _ => ?_)
  refine Br.mk (fun k => absurd k (by decide)) (fun _ => ?_)
  refine Br.mk (fun k => absurd k (by decide)) (fun _ => ?_)
  refine Ar.fit (by omega) ?_
  refine CallV.to _ (r_fr _ _ _ _ _ rp (C3.at_r _)) rfl ?_
  refine Ar.fit (by omega) ?_
  refine CallV.to _ (r_fr _ _ _ _ _ rp (C3.at_g _)) rfl ?_
  refine Ar.fit (by omega) ?_
  refine CallV.to _ (r_fr _ _ _ _ _ rp (C3.at_b _)) rfl ?_
  refine Dr.dyn ?_
  refine Ob.mk (by decide +kernel) ?_
  refine Ar.fit (by omega) ?_
  refine Ar.fit (by omega) ?_
  refine Ar.fit (by omega) ?_
  refine Ar.fit (by omega) ?_
  refine Ar.fit (by omega) ?_
  refine Ar.fit (by omega) ?_
  refine Ar.fit (by omega) ?_
  refine CallV.to _ (r_mixed _ _ _ xr) rfl ?_
  refine Ar.fit (by omega) ?_
  refine Ar.fit (by omega) ?_
  refine Ar.fit (by omega) ?_
  refine Ar.fit (by omega) ?_
  refine Ar.fit (by omega) ?_
  refine Ar.fit (by omega) ?_
  refine Ar.fit (by omega) ?_
  refine CallV.to _ (r_mixed _ _ _ xg) rfl ?_
  refine Ar.fit (by omega) ?_
  refine Ar.fit (by omega) ?_
  refine Ar.fit (by omega) ?_
  refine Ar.fit (by omega) ?_
  refine Ar.fit (by omega) ?_
  refine Ar.fit (by omega) ?_
  refine Ar.fit (by omega) ?_
  refine CallV.to _ (r_mixed _ _ _ xb) rfl ?_
  refine Ar.fit (by omega) ?_
  refine Ar.fit (by omega) ?_
  refine Ar.fit (by omega) ?_
  refine Ar.fit (by omega) ?_
  refine Ar.fit (by omega) ?_
  refine Ar.fit (by omega) ?_
  refine Ar.fit (by omega) ?_
  refine CallV.to _ (r_dn8 (s.a * (255 - d.a) + d.a * (255 - s.a) + s.a * d.a) (by omega)) rfl ?_
  refine Ob.mk (by kernel_rfl) ?_
  exact .refl

set_option maxRecDepth 100000 in
set_option maxHeartbeats 4000000 in
theorem r_whole11 (s d : Pix) (hs : pxOK s) (h8 : P8 s) (hd : pxOK d) (k8 : P8 d) : CallsG Tryz.prog 139 [i64 11, .agg (pixE s), .agg (pixE d)] [] (.agg (pixE (wholeP 11 s d))) [] := by
  have rp := rp_of (mode := 11) hs h8 hd k8
  have xr := mx_of (mode := 11) hs h8 hd k8 (x := s.r) (y := d.r) ⟨h8.1.1, hs.1⟩ ⟨k8.1.1, hd.1⟩ C3.at_r
  have xg := mx_of (mode := 11) hs h8 hd k8 (x := s.g) (y := d.g) ⟨h8.2.1.1, hs.2.1⟩ ⟨k8.2.1.1, hd.2.1⟩ C3.at_g
  have xb := mx_of (mode := 11) hs h8 hd k8 (x := s.b) (y := d.b) ⟨h8.2.2.1.1, hs.2.2⟩ ⟨k8.2.2.1.1, hd.2.2⟩ C3.at_b
  have ra := h8.2.2.2
  have rb := k8.2.2.2
  have ra' := ra
  have rb' := rb
  unfold R8 at ra' rb'
  have w1 := h8.1
  have w2 := h8.2.1
  have w3 := h8.2.2.1
  have v1 := k8.1
  have v2 := k8.2.1
  have v3 := k8.2.2.1
  unfold R8 at w1 w2 w3 v1 v2 v3
  have m1 := mulb (a := s.a) (b := 255 - d.a) (A := 255) (B := 255) ra'.1 ra'.2 (by omega) (by omega)
  have m2 := mulb (a := d.a) (b := 255 - s.a) (A := 255) (B := 255) rb'.1 rb'.2 (by omega) (by omega)
  have m3 := mulb ra'.1 ra'.2 rb'.1 rb'.2
  have n1 := mulb (a := s.r) (b := 255 - d.a) (A := 255) (B := 255) w1.1 w1.2 (by omega) (by omega)
  have n2 := mulb (a := s.g) (b := 255 - d.a) (A := 255) (B := 255) w2.1 w2.2 (by omega) (by omega)
  have n3 := mulb (a := s.b) (b := 255 - d.a) (A := 255) (B := 255) w3.1 w3.2 (by omega) (by omega)
  have n4 := mulb (a := d.r) (b := 255 - s.a) (A := 255) (B := 255) v1.1 v1.2 (by omega) (by omega)
  have n5 := mulb (a := d.g) (b := 255 - s.a) (A := 255) (B := 255) v2.1 v2.2 (by omega) (by omega)
  have n6 := mulb (a := d.b) (b := 255 - s.a) (A := 255) (B := 255) v3.1 v3.2 (by omega) (by omega)
  have ls := tc_le hs h8 rb
  have ld := tc_le hd k8 ra
  refine calls_to tok mix Tryz.func139 rfl rfl rfl ?_
  refine Dr.mk (by decide +kernel) ?_
  refine Ar.fit (by omega) ?_
  refine Ar.fit (by omega) ?_
  refine Dr.dyn ?_
  refine Ob.mk (by decide +kernel) ?_
  refine CallV.to _ (r_times s d.a h8 rb) rfl ?_
  refine CallV.to _ (r_times d s.a k8 ra) rfl ?_
  refine Ob.mk (by kernel_rfl) ?_
  refine Dr.dyn ?_
  refine Ob.mk (by decide +kernel) ?_
  refine CallV.to _ (r_sat _ ld) rfl ?_
  refine CallV.to _ (r_lum _ ld) rfl ?_
  refine Ob.mk (by kernel_rfl) ?_
  refine Br.mk (fun _ => ?_) (fun k => absurd rfl k)
  refine CallV.to _ (r_sat _ ls) rfl ?_
  refine Ar.fit (by omega) ?_
  refine CallV.to _ (r_fr _ _ _ _ _ rp (C3.at_r _)) rfl ?_
  refine Ar.fit (by omega) ?_
  refine CallV.to _ (r_fr _ _ _ _ _ rp (C3.at_g _)) rfl ?_
  refine Ar.fit (by omega) ?_
  refine CallV.to _ (r_fr _ _ _ _ _ rp (C3.at_b _)) rfl ?_
  refine Dr.dyn ?_
  refine Ob.mk (by decide +kernel) ?_
  refine Ar.fit (by omega) ?_
  refine Ar.fit (by omega) ?_
  refine Ar.fit (by omega) ?_
  refine Ar.fit (by omega) ?_
  refine Ar.fit (by omega) ?_
  refine Ar.fit (by omega) ?_
  refine Ar.fit (by omega) ?_
  refine CallV.to _ (r_mixed _ _ _ xr) rfl ?_
  refine Ar.fit (by omega) ?_
  refine Ar.fit (by omega) ?_
  refine Ar.fit (by omega) ?_
  refine Ar.fit (by omega) ?_
  refine Ar.fit (by omega) ?_
  refine Ar.fit (by omega) ?_
  refine Ar.fit (by omega) ?_
  refine CallV.to _ (r_mixed _ _ _ xg) rfl ?_
  refine Ar.fit (by omega) ?_
  refine Ar.fit (by omega) ?_
  refine Ar.fit (by omega) ?_
  refine Ar.fit (by omega) ?_
  refine Ar.fit (by omega) ?_
  refine Ar.fit (by omega) ?_
  refine Ar.fit (by omega) ?_
  refine CallV.to _ (r_mixed _ _ _ xb) rfl ?_
  refine Ar.fit (by omega) ?_
  refine Ar.fit (by omega) ?_
  refine Ar.fit (by omega) ?_
  refine Ar.fit (by omega) ?_
  refine Ar.fit (by omega) ?_
  refine Ar.fit (by omega) ?_
  refine Ar.fit (by omega) ?_
  refine CallV.to _ (r_dn8 (s.a * (255 - d.a) + d.a * (255 - s.a) + s.a * d.a) (by omega)) rfl ?_
  refine Ob.mk (by kernel_rfl) ?_
  exact .refl

set_option maxRecDepth 100000 in
set_option maxHeartbeats 4000000 in
theorem r_whole12 (s d : Pix) (hs : pxOK s) (h8 : P8 s) (hd : pxOK d) (k8 : P8 d) : CallsG Tryz.prog 139 [i64 12, .agg (pixE s), .agg (pixE d)] [] (.agg (pixE (wholeP 12 s d))) [] := by
  have rp := rp_of (mode := 12) hs h8 hd k8
  have xr := mx_of (mode := 12) hs h8 hd k8 (x := s.r) (y := d.r) ⟨h8.1.1, hs.1⟩ ⟨k8.1.1, hd.1⟩ C3.at_r
  have xg := mx_of (mode := 12) hs h8 hd k8 (x := s.g) (y := d.g) ⟨h8.2.1.1, hs.2.1⟩ ⟨k8.2.1.1, hd.2.1⟩ C3.at_g
  have xb := mx_of (mode := 12) hs h8 hd k8 (x := s.b) (y := d.b) ⟨h8.2.2.1.1, hs.2.2⟩ ⟨k8.2.2.1.1, hd.2.2⟩ C3.at_b
  have ra := h8.2.2.2
  have rb := k8.2.2.2
  have ra' := ra
  have rb' := rb
  unfold R8 at ra' rb'
  have w1 := h8.1
  have w2 := h8.2.1
  have w3 := h8.2.2.1
  have v1 := k8.1
  have v2 := k8.2.1
  have v3 := k8.2.2.1
  unfold R8 at w1 w2 w3 v1 v2 v3
  have m1 := mulb (a := s.a) (b := 255 - d.a) (A := 255) (B := 255) ra'.1 ra'.2 (by omega) (by omega)
  have m2 := mulb (a := d.a) (b := 255 - s.a) (A := 255) (B := 255) rb'.1 rb'.2 (by omega) (by omega)
  have m3 := mulb ra'.1 ra'.2 rb'.1 rb'.2
  have n1 := mulb (a := s.r) (b := 255 - d.a) (A := 255) (B := 255) w1.1 w1.2 (by omega) (by omega)
  have n2 := mulb (a := s.g) (b := 255 - d.a) (A := 255) (B := 255) w2.1 w2.2 (by omega) (by omega)
  have n3 := mulb (a := s.b) (b := 255 - d.a) (A := 255) (B := 255) w3.1 w3.2 (by omega) (by omega)
  have n4 := mulb (a := d.r) (b := 255 - s.a) (A := 255) (B := 255) v1.1 v1.2 (by omega) (by omega)
  have n5 := mulb (a := d.g) (b := 255 - s.a) (A := 255) (B := 255) v2.1 v2.2 (by omega) (by omega)
  have n6 := mulb (a := d.b) (b := 255 - s.a) (A := 255) (B := 255) v3.1 v3.2 (by omega) (by omega)
  have ls := tc_le hs h8 rb
  have ld := tc_le hd k8 ra
  refine calls_to tok mix Tryz.func139 rfl rfl rfl ?_
  refine Dr.mk (by decide +kernel) ?_
  refine Ar.fit (by omega) ?_
  refine Ar.fit (by omega) ?_
  refine Dr.dyn ?_
  refine Ob.mk (by decide +kernel) ?_
  refine CallV.to _ (r_times s d.a h8 rb) rfl ?_
  refine CallV.to _ (r_times d s.a k8 ra) rfl ?_
  refine Ob.mk (by kernel_rfl) ?_
  refine Dr.dyn ?_
  refine Ob.mk (by decide +kernel) ?_
  refine CallV.to _ (r_sat _ ld) rfl ?_
  refine CallV.to _ (r_lum _ ld) rfl ?_
  refine Ob.mk (by kernel_rfl) ?_
  refine Br.mk (fun k => absurd k (by decide)) (fun _ => ?_)
  refine Br.mk (fun _ => ?_) (fun k => absurd rfl k)
  refine CallV.to _ (r_sat _ ls) rfl ?_
  refine Ar.fit (by omega) ?_
  refine CallV.to _ (r_fr _ _ _ _ _ rp (C3.at_r _)) rfl ?_
  refine Ar.fit (by omega) ?_
  refine CallV.to _ (r_fr _ _ _ _ _ rp (C3.at_g _)) rfl ?_
  refine Ar.fit (by omega) ?_
  refine CallV.to _ (r_fr _ _ _ _ _ rp (C3.at_b _)) rfl ?_
  refine Dr.dyn ?_
  refine Ob.mk (by decide +kernel) ?_
  refine Ar.fit (by omega) ?_
  refine Ar.fit (by omega) ?_
  refine Ar.fit (by omega) ?_
  refine Ar.fit (by omega) ?_
  refine Ar.fit (by omega) ?_
  refine Ar.fit (by omega) ?_
  refine Ar.fit (by omega) ?_
  refine CallV.to _ (r_mixed _ _ _ xr) rfl ?_
  refine Ar.fit (by omega) ?_
  refine Ar.fit (by omega) ?_
  refine Ar.fit (by omega) ?_
  refine Ar.fit (by omega) ?_
  refine Ar.fit (by omega) ?_
  refine Ar.fit (by omega) ?_
  refine Ar.fit (by omega) ?_
  refine CallV.to _ (r_mixed _ _ _ xg) rfl ?_
  refine Ar.fit (by omega) ?_
  refine Ar.fit (by omega) ?_
  refine Ar.fit (by omega) ?_
  refine Ar.fit (by omega) ?_
  refine Ar.fit (by omega) ?_
  refine Ar.fit (by omega) ?_
  refine Ar.fit (by omega) ?_
  refine CallV.to _ (r_mixed _ _ _ xb) rfl ?_
  refine Ar.fit (by omega) ?_
  refine Ar.fit (by omega) ?_
  refine Ar.fit (by omega) ?_
  refine Ar.fit (by omega) ?_
  refine Ar.fit (by omega) ?_
  refine Ar.fit (by omega) ?_
  refine Ar.fit (by omega) ?_
  refine CallV.to _ (r_dn8 (s.a * (255 - d.a) + d.a * (255 - s.a) + s.a * d.a) (by omega)) rfl ?_
  refine Ob.mk (by kernel_rfl) ?_
  exact .refl

set_option maxRecDepth 100000 in
set_option maxHeartbeats 4000000 in
theorem r_whole13 (s d : Pix) (hs : pxOK s) (h8 : P8 s) (hd : pxOK d) (k8 : P8 d) : CallsG Tryz.prog 139 [i64 13, .agg (pixE s), .agg (pixE d)] [] (.agg (pixE (wholeP 13 s d))) [] := by
  have rp := rp_of (mode := 13) hs h8 hd k8
  have xr := mx_of (mode := 13) hs h8 hd k8 (x := s.r) (y := d.r) ⟨h8.1.1, hs.1⟩ ⟨k8.1.1, hd.1⟩ C3.at_r
  have xg := mx_of (mode := 13) hs h8 hd k8 (x := s.g) (y := d.g) ⟨h8.2.1.1, hs.2.1⟩ ⟨k8.2.1.1, hd.2.1⟩ C3.at_g
  have xb := mx_of (mode := 13) hs h8 hd k8 (x := s.b) (y := d.b) ⟨h8.2.2.1.1, hs.2.2⟩ ⟨k8.2.2.1.1, hd.2.2⟩ C3.at_b
  have ra := h8.2.2.2
  have rb := k8.2.2.2
  have ra' := ra
  have rb' := rb
  unfold R8 at ra' rb'
  have w1 := h8.1
  have w2 := h8.2.1
  have w3 := h8.2.2.1
  have v1 := k8.1
  have v2 := k8.2.1
  have v3 := k8.2.2.1
  unfold R8 at w1 w2 w3 v1 v2 v3
  have m1 := mulb (a := s.a) (b := 255 - d.a) (A := 255) (B := 255) ra'.1 ra'.2 (by omega) (by omega)
  have m2 := mulb (a := d.a) (b := 255 - s.a) (A := 255) (B := 255) rb'.1 rb'.2 (by omega) (by omega)
  have m3 := mulb ra'.1 ra'.2 rb'.1 rb'.2
  have n1 := mulb (a := s.r) (b := 255 - d.a) (A := 255) (B := 255) w1.1 w1.2 (by omega) (by omega)
  have n2 := mulb (a := s.g) (b := 255 - d.a) (A := 255) (B := 255) w2.1 w2.2 (by omega) (by omega)
  have n3 := mulb (a := s.b) (b := 255 - d.a) (A := 255) (B := 255) w3.1 w3.2 (by omega) (by omega)
  have n4 := mulb (a := d.r) (b := 255 - s.a) (A := 255) (B := 255) v1.1 v1.2 (by omega) (by omega)
  have n5 := mulb (a := d.g) (b := 255 - s.a) (A := 255) (B := 255) v2.1 v2.2 (by omega) (by omega)
  have n6 := mulb (a := d.b) (b := 255 - s.a) (A := 255) (B := 255) v3.1 v3.2 (by omega) (by omega)
  have ls := tc_le hs h8 rb
  have ld := tc_le hd k8 ra
  refine calls_to tok mix Tryz.func139 rfl rfl rfl ?_
  refine Dr.mk (by decide +kernel) ?_
  refine Ar.fit (by omega) ?_
  refine Ar.fit (by omega) ?_
  refine Dr.dyn ?_
  refine Ob.mk (by decide +kernel) ?_
  refine CallV.to _ (r_times s d.a h8 rb) rfl ?_
  refine CallV.to _ (r_times d s.a k8 ra) rfl ?_
  refine Ob.mk (by kernel_rfl) ?_
  refine Dr.dyn ?_
  refine Ob.mk (by decide +kernel) ?_
  refine CallV.to _ (r_sat _ ld) rfl ?_
  refine CallV.to _ (r_lum _ ld) rfl ?_
  refine Ob.mk (by kernel_rfl) ?_
  refine Br.mk (fun k => absurd k (by decide)) (fun _ => ?_)
  refine Br.mk (fun k => absurd k (by decide)) (fun _ => ?_)
  refine Br.mk (fun _ => ?_) (fun k => absurd rfl k)
  refine CallV.to _ (r_lum _ ls) rfl ?_
  refine Ar.fit (by omega) ?_
  refine CallV.to _ (r_fr _ _ _ _ _ rp (C3.at_r _)) rfl ?_
  refine Ar.fit (by omega) ?_
  refine CallV.to _ (r_fr _ _ _ _ _ rp (C3.at_g _)) rfl ?_
  refine Ar.fit (by omega) ?_
  refine CallV.to _ (r_fr _ _ _ _ _ rp (C3.at_b _)) rfl ?_
  refine Dr.dyn ?_
  refine Ob.mk (by decide +kernel) ?_
  refine Ar.fit (by omega) ?_
  refine Ar.fit (by omega) ?_
  refine Ar.fit (by omega) ?_
  refine Ar.fit (by omega) ?_
  refine Ar.fit (by omega) ?_
  refine Ar.fit (by omega) ?_
  refine Ar.fit (by omega) ?_
  refine CallV.to _ (r_mixed _ _ _ xr) rfl ?_
  refine Ar.fit (by omega) ?_
  refine Ar.fit (by omega) ?_
  refine Ar.fit (by omega) ?_
  refine Ar.fit (by omega) ?_
  refine Ar.fit (by omega) ?_
  refine Ar.fit (by omega) ?_
  refine Ar.fit (by omega) ?_
  refine CallV.to _ (r_mixed _ _ _ xg) rfl ?_
  refine Ar.fit (by omega) ?_
  refine Ar.fit (by omega) ?_
  refine Ar.fit (by omega) ?_
  refine Ar.fit (by omega) ?_
  refine Ar.fit (by omega) ?_
  refine Ar.fit (by omega) ?_
  refine Ar.fit (by omega) ?_
  refine CallV.to _ (r_mixed _ _ _ xb) rfl ?_
  refine Ar.fit (by omega) ?_
  refine Ar.fit (by omega) ?_
  refine Ar.fit (by omega) ?_
  refine Ar.fit (by omega) ?_
  refine Ar.fit (by omega) ?_
  refine Ar.fit (by omega) ?_
  refine Ar.fit (by omega) ?_
  refine CallV.to _ (r_dn8 (s.a * (255 - d.a) + d.a * (255 - s.a) + s.a * d.a) (by omega)) rfl ?_
  refine Ob.mk (by kernel_rfl) ?_
  exact .refl

theorem r_whole (mode : Int) (s d : Pix) (hs : pxOK s) (h8 : P8 s) (hd : pxOK d) (k8 : P8 d) (hm : 10 ≤ mode ∧ mode ≤ 13) : CallsG Tryz.prog 139 [i64 mode, .agg (pixE s), .agg (pixE d)] [] (.agg (pixE (wholeP mode s d))) [] := by
  have : mode = 10 ∨ mode = 11 ∨ mode = 12 ∨ mode = 13 := by omega
  rcases this with rfl | rfl | rfl | rfl
  · exact r_whole10 s d hs h8 hd k8
  · exact r_whole11 s d hs h8 hd k8
  · exact r_whole12 s d hs h8 hd k8
  · exact r_whole13 s d hs h8 hd k8

set_option maxRecDepth 100000 in
set_option maxHeartbeats 4000000 in
theorem p_blend (mode : Int) (s d : Pix) (h8 : P8 s) (k8 : P8 d) : CallsG Tryz.prog 80 [i64 mode, .agg (pixE s), .agg (pixE d)] [] (.agg (pixE (blendP mode s d))) [] := by
  have hs := clampP_ok s
  have hd := clampP_ok d
  have h8 := clampP_8 h8
  have k8 := clampP_8 k8
  have ra := h8.2.2.2
  have rb := k8.2.2.2
  unfold R8 at ra rb
  have w1 := h8.1
  have w2 := h8.2.1
  have w3 := h8.2.2.1
  have v1 := k8.1
  have v2 := k8.2.1
  have v3 := k8.2.2.1
  unfold R8 at w1 w2 w3 v1 v2 v3
  have m1 := mulb (a := (clampP s).a) (b := 255 - (clampP d).a) (A := 255) (B := 255) ra.1 ra.2 (by omega) (by omega)
  have m2 := mulb (a := (clampP d).a) (b := 255 - (clampP s).a) (A := 255) (B := 255) rb.1 rb.2 (by omega) (by omega)
  have m3 := mulb ra.1 ra.2 rb.1 rb.2
  refine calls_to tok mix Tryz.func80 rfl rfl rfl ?_
  refine CallV.to _ (p_mode mode) rfl ?_
  refine Br.mk (fun k => LE_pix (p := d) (by unfold blendP; rw [if_pos k])) (fun k => ?_)
  have hm := Decidable.not_not.1 k
  unfold modeOK at hm
  refine Dr.dyn ?_
  refine Ob.mk (by decide +kernel) ?_
  refine CallV.to _ (p_clamp s) rfl ?_
  refine CallV.to _ (p_clamp d) rfl ?_
  refine Ob.mk (by kernel_rfl) ?_
  obtain ⟨B, hB⟩ : ∃ B, B = blendP mode s d := ⟨_, rfl⟩
  have eW : 9 < mode → wholeP mode (clampP s) (clampP d) = B := fun h => by rw [hB]; unfold blendP; rw [if_neg k, if_pos h]
  have eS : ¬ 9 < mode → sepP mode (clampP s) (clampP d) = B := fun h => by rw [hB]; unfold blendP; rw [if_neg k, if_neg h]
  rw [← hB]
  clear hB
  generalize clampP s = s at *
  generalize clampP d = d at *
  refine CallV.to _ (p_sep mode) rfl ?_
  refine Br.mk (fun j => ?_) (fun j => ?_)
  · refine CallV.to _ (p_whole mode s d hs h8 hd k8 (by omega)) rfl ?_
    exact LE_pix (eW (by omega))
  have hj : 1 ≤ mode ∧ mode ≤ 9 := by omega
  refine Dr.mk (by decide +kernel) ?_
  refine Ar.fit (by omega) ?_
  refine Ar.fit (by omega) ?_
  refine Dr.mk (by decide +kernel) ?_
  refine Ar.fit (by omega) ?_
  refine Ar.fit (by omega) ?_
  refine CallV.to _ (p_chan mode s.r s.a d.r d.a (two_r hs h8 hd k8)) rfl ?_
  refine Ar.fit (by omega) ?_
  refine Ar.fit (by omega) ?_
  refine CallV.to _ (p_chan mode s.g s.a d.g d.a (two_g hs h8 hd k8)) rfl ?_
  refine Ar.fit (by omega) ?_
  refine Ar.fit (by omega) ?_
  refine CallV.to _ (p_chan mode s.b s.a d.b d.a (two_b hs h8 hd k8)) rfl ?_
  refine Ar.fit (by omega) ?_
  refine Ar.fit (by omega) ?_
  refine Ar.fit (by omega) ?_
  refine Ar.fit (by omega) ?_
  refine Ar.fit (by omega) ?_
  refine Ar.fit (by omega) ?_
  refine Ar.fit (by omega) ?_
  refine CallV.to _ (p_dn8 (s.a * (255 - d.a) + d.a * (255 - s.a) + s.a * d.a) (by omega)) rfl ?_
  exact LE_pix (p := sepP mode s d) (eS (by omega))
theorem p_cover (mode : Int) (s d : Pix) (k : Int) (h8 : P8 s) (k8 : P8 d) (hk : R8 k) : CallsG Tryz.prog 44 [i64 mode, .agg (pixE s), .agg (pixE d), u8 k] [] (.agg (pixE (coverP mode s d k))) [] := by
  refine calls_to tok mix Tryz.func44 rfl rfl rfl ?_
  refine Dr.mk (by decide +kernel) ?_
  refine CallV.to _ (p_scale s k h8 hk) rfl ?_
  refine CallV.to _ (p_blend mode (scaleP s k) d (scaleP_8 h8 hk) k8) rfl ?_
  exact .refl

set_option maxRecDepth 100000 in
set_option maxHeartbeats 4000000 in
theorem r_blend (mode : Int) (s d : Pix) (h8 : P8 s) (k8 : P8 d) : CallsG Tryz.prog 90 [i64 mode, .agg (pixE s), .agg (pixE d)] [] (.agg (pixE (blendP mode s d))) [] := by
  have hs := clampP_ok s
  have hd := clampP_ok d
  have h8 := clampP_8 h8
  have k8 := clampP_8 k8
  have ra := h8.2.2.2
  have rb := k8.2.2.2
  unfold R8 at ra rb
  have w1 := h8.1
  have w2 := h8.2.1
  have w3 := h8.2.2.1
  have v1 := k8.1
  have v2 := k8.2.1
  have v3 := k8.2.2.1
  unfold R8 at w1 w2 w3 v1 v2 v3
  have m1 := mulb (a := (clampP s).a) (b := 255 - (clampP d).a) (A := 255) (B := 255) ra.1 ra.2 (by omega) (by omega)
  have m2 := mulb (a := (clampP d).a) (b := 255 - (clampP s).a) (A := 255) (B := 255) rb.1 rb.2 (by omega) (by omega)
  have m3 := mulb ra.1 ra.2 rb.1 rb.2
  refine calls_to tok mix Tryz.func90 rfl rfl rfl ?_
  refine CallV.to _ (r_mode mode) rfl ?_
  refine Br.mk (fun k => LE_pix (p := d) (by unfold blendP; rw [if_pos k])) (fun k => ?_)
  have hm := Decidable.not_not.1 k
  unfold modeOK at hm
  refine Dr.dyn ?_
  refine Ob.mk (by decide +kernel) ?_
  refine CallV.to _ (r_clamp s) rfl ?_
  refine CallV.to _ (r_clamp d) rfl ?_
  refine Ob.mk (by kernel_rfl) ?_
  obtain ⟨B, hB⟩ : ∃ B, B = blendP mode s d := ⟨_, rfl⟩
  have eW : 9 < mode → wholeP mode (clampP s) (clampP d) = B := fun h => by rw [hB]; unfold blendP; rw [if_neg k, if_pos h]
  have eS : ¬ 9 < mode → sepP mode (clampP s) (clampP d) = B := fun h => by rw [hB]; unfold blendP; rw [if_neg k, if_neg h]
  rw [← hB]
  clear hB
  generalize clampP s = s at *
  generalize clampP d = d at *
  refine Dr.mk (by decide +kernel) ?_
  refine Ar.fit (by omega) ?_
  refine Ar.fit (by omega) ?_
  refine Br.mk (fun j => ?_) (fun j => ?_)
  · refine CallV.to _ (r_whole mode s d hs h8 hd k8 (by omega)) rfl ?_
    exact LE_pix (eW j)
  have hj : 1 ≤ mode ∧ mode ≤ 9 := by omega
  refine Dr.mk (by decide +kernel) ?_
  refine CallV.to _ (r_one mode s.r s.a d.r d.a (two_r hs h8 hd k8) hj) rfl ?_
  refine CallV.to _ (r_one mode s.g s.a d.g d.a (two_g hs h8 hd k8) hj) rfl ?_
  refine CallV.to _ (r_one mode s.b s.a d.b d.a (two_b hs h8 hd k8) hj) rfl ?_
  refine Ar.fit (by omega) ?_
  refine Ar.fit (by omega) ?_
  refine Ar.fit (by omega) ?_
  refine Ar.fit (by omega) ?_
  refine Ar.fit (by omega) ?_
  refine Ar.fit (by omega) ?_
  refine Ar.fit (by omega) ?_
  refine CallV.to _ (r_dn8 (s.a * (255 - d.a) + d.a * (255 - s.a) + s.a * d.a) (by omega)) rfl ?_
  exact LE_pix (p := sepP mode s d) (eS (by omega))
theorem r_cover (mode : Int) (s d : Pix) (k : Int) (h8 : P8 s) (k8 : P8 d) (hk : R8 k) : CallsG Tryz.prog 49 [i64 mode, .agg (pixE s), .agg (pixE d), u8 k] [] (.agg (pixE (coverP mode s d k))) [] := by
  refine calls_to tok mix Tryz.func49 rfl rfl rfl ?_
  refine Dr.mk (by decide +kernel) ?_
  refine CallV.to _ (r_scale s k h8 hk) rfl ?_
  refine CallV.to _ (r_blend mode (scaleP s k) d (scaleP_8 h8 hk) k8) rfl ?_
  exact .refl


end Go.Gs
/- Bitmaps and masks, both texts. -/
namespace Go.Gs
open Go.Proofs

theorem LE_bm {p q : Bm} (h : p = q) : LE (.agg (bmE p)) (.agg (bmE q)) := by subst h; exact .refl
theorem Bm.ok_of {s : Bm} (h1 : s.b.canon = s.b) (h2 : s.b.area ≤ 65536) (h3 : (s.px.length : Int) = s.b.area) : s.ok ↔ ∀ p ∈ s.px, pxOK p :=
  ⟨fun h => h.2.2.2, fun h => ⟨h1, h2, h3, h⟩⟩
theorem bm_eq' {s t : Bm} : (s.b = t.b ∧ s.px = t.px) ↔ s = t := by cases s; cases t; simp
instance instG11 : DecidableEq Bm := fun _ _ => decidable_of_iff _ bm_eq'
theorem bm_eq {s t : Bm} (h1 : s.b = t.b) (h2 : s.px = t.px) : s = t := by cases s; cases t; simp_all

theorem p_bvalid1 (p : Pix) : CallsG Tryz.prog 78 [.agg (pixE p)] [] (pr (¬ pxOK p)) [] := by
  refine calls_to tok mix Tryz.func78 rfl rfl rfl ?_
  refine CallV.to _ (c_pvalid p) rfl ?_
  exact LE_pr Iff.rfl
theorem p_bindex (xs : List Pix) (hl : xs.length ≤ 9223372036854775807) : CallsG Tryz.prog 106 [.sl pixE xs, .fn 78 []] [] (i64 (badIdx xs)) [] := by
  refine calls_to tok mix Tryz.func106 rfl rfl rfl ?_
  intro hl0
  refine ⟨Int, fun i => ⟨[(8, i64 i), (7, i64 xs.length), (0, .sl pixE xs), (1, .fn 78 [])], [], 0, 19, 0⟩, fun i => 0 ≤ i ∧ i ≤ xs.length ∧ ∀ (j : Nat) q, (j : Int) < i → xs[j]? = some q → pxOK q, fun i => ((xs.length : Int) - i).toNat, 0, ?_, ?_, ?_⟩
  · exact ⟨by omega, by omega, fun j q hj => by omega⟩
  · exact sub_of [] rfl rfl rfl ⟨rfl, rfl, rfl, rfl, trivial⟩ trivial
  rintro i ⟨h1, h2, h3⟩
  refine Br.mk (fun h4 => ?_) (fun h4 => ?_)
  · refine Ob.mk (by omega) ?_
    intro x hx
    refine CallV.to _ (p_bvalid1 x) rfl ?_
    refine Br.mk (fun h5 => ?_) (fun h5 => ?_)
    · refine LE_int ?_
      rw [badIdx_at (i := i.toNat) (fun j q hj => h3 j q (by omega)) hx h5]; omega
    · refine Ar.fit (by omega) ?_
      refine ⟨i + 1, ⟨by omega, by omega, fun j q hj hq => ?_⟩, sub_of [] rfl rfl rfl ⟨rfl, rfl, rfl, rfl, trivial⟩ trivial, by dsimp only; omega⟩
      by_cases e : j = i.toNat
      · subst e; rw [hx] at hq; cases hq; exact Decidable.not_not.1 h5
      · exact h3 j q (by omega) hq
  · refine LE_int (badIdx_none fun p hp => ?_).symm
    obtain ⟨j, hj, he⟩ := List.getElem_of_mem hp
    exact h3 j p (by omega) (by rw [← he]; exact List.getElem?_eq_getElem hj)
theorem p_bcontains (xs : List Pix) (hl : xs.length ≤ 9223372036854775807) : CallsG Tryz.prog 77 [.sl pixE xs, .fn 78 []] [] (pr (¬ ∀ p ∈ xs, pxOK p)) [] := by
  refine calls_to tok mix Tryz.func77 rfl rfl rfl ?_
  refine CallV.to _ (p_bindex xs hl) rfl ?_
  exact LE_pr badIdx_nonneg
set_option maxRecDepth 100000 in
theorem p_bvalid (s : Bm) : CallsG Tryz.prog 39 [.agg (bmE s)] [] (pr s.ok) [] := by
  refine calls_to tok mix Tryz.func39 rfl rfl rfl ?_
  refine CallV.to _ (p_area s.b) rfl ?_
  refine Dr.dyn (Ob.mk (by decide +kernel) ?_)
  refine CallV.to _ (p_canon s.b) rfl ?_
  refine Br.mk (fun h1 => Ob.mk (by kernel_rfl) (LE_false fun h => h1 (rc_eq.2 h.1))) (fun h1 => ?_)
  have h1 := rc_eq.1 (Decidable.not_not.1 h1)
  refine Br.mk (fun h2 => Ob.mk (by kernel_rfl) (LE_false fun h => by have := h.2.1; omega)) (fun h2 => ?_)
  intro hl0
  refine Ob.mk (by kernel_rfl) ?_
  refine Br.mk (fun h3 => ?_) (fun h3 => ?_)
  · exact LE_false fun h => h3 h.2.2.1
  have h3 := Decidable.not_not.1 h3
  refine CallV.to _ (p_bcontains s.px (by omega)) rfl ?_
  exact LE_pr (Iff.trans Decidable.not_not (Bm.ok_of h1 (by omega) h3).symm)
set_option maxRecDepth 100000 in
theorem p_mvalid (m : Mk) : CallsG Tryz.prog 40 [.agg (mkE m)] [] (pr m.ok) [] := by
  refine calls_to tok mix Tryz.func40 rfl rfl rfl ?_
  refine CallV.to _ (p_area m.b) rfl ?_
  refine Dr.dyn (Ob.mk (by decide +kernel) ?_)
  refine CallV.to _ (p_canon m.b) rfl ?_
  refine Br.mk (fun h1 => ?_) (fun h1 => Ob.mk (by kernel_rfl) (LE_false fun h => h1 (rc_eq.2 h.1)))
  have h1 := rc_eq.1 h1
  refine Br.mk (fun h2 => ?_) (fun h2 => Ob.mk (by kernel_rfl) (LE_false fun h => h2 h.2.1))
  intro hl0
  refine Ob.mk (by kernel_rfl) ?_
  exact LE_pr ⟨fun h => ⟨h1, h2, h⟩, fun h => h.2.2⟩
set_option maxRecDepth 100000 in
theorem r_bvalid (s : Bm) : CallsG Tryz.prog 24 [.agg (bmE s)] [] (pr s.ok) [] := by
  refine calls_to tok mix Tryz.func24 rfl rfl rfl ?_
  refine Dr.dyn (Ob.mk (by decide +kernel) ?_)
  refine CallV.to _ (r_canon s.b) rfl ?_
  refine Br.mk (fun h1 => Ob.mk (by kernel_rfl) (LE_false fun h => h1 (rc_eq.2 h.1))) (fun h1 => ?_)
  have h1 := rc_eq.1 (Decidable.not_not.1 h1)
  refine CallV.to _ (r_area s.b) rfl ?_
  refine Br.mk (fun h2 => Ob.mk (by kernel_rfl) (LE_false fun h => by have := h.2.1; omega)) (fun h2 => ?_)
  intro hl0
  refine CallV.to _ (r_area s.b) rfl ?_
  refine Ob.mk (by kernel_rfl) ?_
  refine Br.mk (fun h3 => ?_) (fun h3 => ?_)
  · exact LE_false fun h => h3 h.2.2.1
  have h3 := Decidable.not_not.1 h3
  refine ⟨Int, fun i => ⟨[(3, i64 i), (1, .loc 0 0)], [(0, .box 26 (bmE s))], 1, 39, 0⟩, fun i => 0 ≤ i ∧ i ≤ s.px.length ∧ ∀ (j : Nat) q, (j : Int) < i → s.px[j]? = some q → pxOK q, fun i => ((s.px.length : Int) - i).toNat, 0, ?_, ?_, ?_⟩
  · exact ⟨by omega, by omega, fun j q hj => by omega⟩
  · exact sub_of [(0, some 0)] rfl rfl rfl ⟨rfl, rfl, trivial⟩ ⟨rfl, trivial⟩
  rintro i ⟨g1, g2, g3⟩
  intro hl1
  refine Br.mk (fun g4 => ?_) (fun g4 => ?_)
  · refine Ob.mk (by omega) ?_
    intro x hx
    refine CallV.to _ (c_pvalid' x) rfl ?_
    refine Br.mk (fun g5 => ?_) (fun g5 => ?_)
    · exact LE_false fun h => g5 (h.2.2.2 x (List.mem_of_getElem? hx))
    · refine Ar.fit (by omega) ?_
      refine ⟨i + 1, ⟨by omega, by omega, fun j q hj hq => ?_⟩, sub_of [(0, some 0)] rfl rfl rfl ⟨rfl, rfl, trivial⟩ ⟨rfl, trivial⟩, by dsimp only; omega⟩
      by_cases e : j = i.toNat
      · subst e; rw [hx] at hq; cases hq; exact Decidable.not_not.1 g5
      · exact g3 j q (by omega) hq
  · refine LE_true ⟨h1, by omega, h3, fun p hp => ?_⟩
    obtain ⟨j, hj, he⟩ := List.getElem_of_mem hp
    exact g3 j p (by omega) (by rw [← he]; exact List.getElem?_eq_getElem hj)
set_option maxRecDepth 100000 in
theorem r_mvalid (m : Mk) : CallsG Tryz.prog 47 [.agg (mkE m)] [] (pr m.ok) [] := by
  refine calls_to tok mix Tryz.func47 rfl rfl rfl ?_
  refine Dr.dyn (Ob.mk (by decide +kernel) ?_)
  refine CallV.to _ (r_canon m.b) rfl ?_
  refine Br.mk (fun h1 => ?_) (fun h1 => Ob.mk (by kernel_rfl) (LE_false fun h => h1 (rc_eq.2 h.1)))
  have h1 := rc_eq.1 h1
  refine CallV.to _ (r_area m.b) rfl ?_
  refine Br.mk (fun h2 => ?_) (fun h2 => Ob.mk (by kernel_rfl) (LE_false fun h => h2 h.2.1))
  intro hl0
  refine CallV.to _ (r_area m.b) rfl ?_
  refine Ob.mk (by kernel_rfl) ?_
  exact LE_pr ⟨fun h => ⟨h1, h2, h⟩, fun h => h.2.2⟩
theorem r_bequal (m n : Bm) : CallsG Tryz.prog 17 [.agg (bmE m), .agg (bmE n)] [] (pr (m = n)) [] := by
  refine calls_to tok mix Tryz.func17 rfl rfl rfl ?_
  refine Br.mk (fun h1 => ?_) (fun h1 => ?_)
  · exact LE_false fun e => h1 (by rw [e]; exact rc_eq.2 rfl)
  intro hl1 hl2
  refine Br.mk (fun h3 => ?_) (fun h3 => ?_)
  · exact LE_false fun e => h3 (by rw [e])
  refine ⟨Int, fun i => ⟨[(5, i64 i), (2, .loc 0 0), (3, .loc 1 0)], [(1, .box 26 (bmE n)), (0, .box 26 (bmE m))], 2, 38, 0⟩, fun i => 0 ≤ i ∧ i ≤ m.px.length ∧ ∀ j : Nat, (j : Int) < i → m.px[j]? = n.px[j]?, fun i => ((m.px.length : Int) - i).toNat, 0, ?_, ?_, ?_⟩
  · exact ⟨by omega, by omega, fun j hj => by omega⟩
  · exact sub_of [(0, some 0), (1, some 1)] rfl rfl rfl ⟨rfl, rfl, rfl, trivial⟩ ⟨rfl, rfl, trivial⟩
  rintro i ⟨h4, h5, h6⟩
  intro hl3
  refine Br.mk (fun h7 => ?_) (fun h7 => ?_)
  · refine Dr.mk (by decide +kernel) ?_
    refine Ob.mk (by omega) ?_
    intro x hx
    refine Ob.mk (by omega) ?_
    intro y hy
    refine Br.mk (fun h8 => ?_) (fun h8 => ?_)
    · refine LE_false fun e => h8 (pix_eq.2 ?_)
      subst e
      rw [hx] at hy; exact Option.some.inj hy
    · refine Ar.fit (by omega) ?_
      refine ⟨i + 1, ⟨by omega, by omega, fun j hj => ?_⟩, sub_of [(0, some 0), (1, some 1)] rfl rfl rfl ⟨rfl, rfl, rfl, trivial⟩ ⟨rfl, rfl, trivial⟩, by dsimp only; omega⟩
      by_cases e : j = i.toNat
      · subst e; rw [hx, hy, pix_eq.1 (Decidable.not_not.1 h8)]
      · exact h6 j (by omega)
  · refine LE_true (bm_eq (rc_eq.1 (Decidable.not_not.1 h1)) ?_)
    exact list_eq (Decidable.not_not.1 h3) h7 h6
set_option maxRecDepth 100000 in
theorem p_bat (s : Bm) (h : s.ok) (x y : Int) : CallsG Tryz.prog 58 [.agg (bmE s), i64 x, i64 y] [] (.agg (pixE (s.at_ x y))) [] := by
  refine calls_to tok mix Tryz.func58 rfl rfl rfl ?_
  refine CallV.to _ (p_idx s.b x y) rfl ?_
  have hn : ¬ s.b.has x y → s.at_ x y = zeroP := fun k => by unfold Bm.at_; rw [if_neg k]
  refine Br.mk (fun h1 => ?_) (fun h1 => ?_)
  · by_cases hh : s.b.has x y
    · have := (Rc.idx_has hh).2.1; omega
    · exact LE_pix (p := zeroP) (hn hh).symm
  · by_cases hh : s.b.has x y
    · have h2 := (Rc.idx_has hh).2
      have hl := h.2.2.1
      refine Ob.mk (by omega) ?_
      intro p hp
      exact LE_pix (p := p) (Option.some.inj (hp.symm.trans (Bm.get h hh)))
    · have : s.b.idx x y = -1 := by unfold Rc.idx; rw [if_neg hh]
      omega
set_option maxRecDepth 100000 in
theorem p_level (m : Mk) (h : m.ok) (x y : Int) : CallsG Tryz.prog 59 [.agg (mkE m), i64 x, i64 y] [] (u8 (m.at_ x y)) [] := by
  refine calls_to tok mix Tryz.func59 rfl rfl rfl ?_
  refine CallV.to _ (p_idx m.b x y) rfl ?_
  have hn : ¬ m.b.has x y → m.at_ x y = 0 := fun k => by unfold Mk.at_; rw [if_neg k]
  refine Br.mk (fun h1 => ?_) (fun h1 => ?_)
  · by_cases hh : m.b.has x y
    · have := (Rc.idx_has hh).2.1; omega
    · exact LE_int (hn hh).symm
  · by_cases hh : m.b.has x y
    · have h2 := (Rc.idx_has hh).2
      have hl := h.2.2
      refine Ob.mk (by omega) ?_
      intro p hp
      exact LE_int (Option.some.inj (hp.symm.trans (Mk.get h hh)))
    · have : m.b.idx x y = -1 := by unfold Rc.idx; rw [if_neg hh]
      omega
set_option maxRecDepth 100000 in
theorem r_level (m : Mk) (h : m.ok) (x y : Int) : CallsG Tryz.prog 27 [.agg (mkE m), i64 x, i64 y] [] (u8 (m.at_ x y)) [] := by
  refine calls_to tok mix Tryz.func27 rfl rfl rfl ?_
  refine CallV.to _ (r_mvalid m) rfl ?_
  refine Br.mk (fun h1 => absurd h h1) (fun _ => ?_)
  refine CallV.to _ (r_has m.b x y) rfl ?_
  refine Br.mk (fun h1 => LE_int (by unfold Mk.at_; rw [if_neg h1])) (fun h1 => ?_)
  have hh := Decidable.not_not.1 h1
  have h2 := (Rc.idx_has hh).2
  have hl := h.2.2
  refine Dr.mk (by decide +kernel) ?_
  refine CallV.to _ (r_idx m.b x y) rfl ?_
  refine Ob.mk (by omega) ?_
  intro p hp
  exact LE_int (Option.some.inj (hp.symm.trans (Mk.get h hh)))
set_option maxRecDepth 100000 in
theorem r_bat (s : Bm) (h : s.ok) (x y : Int) : CallsG Tryz.prog 62 [.agg (bmE s), i64 x, i64 y] [] (.agg (pixE (s.at_ x y))) [] := by
  refine calls_to tok mix Tryz.func62 rfl rfl rfl ?_
  refine CallV.to _ (r_has s.b x y) rfl ?_
  refine Br.mk (fun h1 => LE_pix (p := zeroP) (by unfold Bm.at_; rw [if_neg h1])) (fun h1 => ?_)
  have hh := Decidable.not_not.1 h1
  have h2 := (Rc.idx_has hh).2
  have hl := h.2.2.1
  refine Dr.mk (by decide +kernel) ?_
  refine CallV.to _ (r_idx s.b x y) rfl ?_
  refine Ob.mk (by omega) ?_
  intro p hp
  exact LE_pix (p := p) (Option.some.inj (hp.symm.trans (Bm.get h hh)))

theorem p_fwide (r : Rc) (h : r.canon = r) : CallsG Tryz.prog 42 [.agg (rcE r)] [] (i64 (r.x1 - r.x0)) [] := by
  have hs := Rc.sides h
  unfold inRc at hs
  refine calls_to tok mix Tryz.func42 rfl rfl rfl ?_
  refine Ar.fit (by omega) ?_
  exact .refl

theorem p_fhigh (r : Rc) (h : r.canon = r) : CallsG Tryz.prog 41 [.agg (rcE r)] [] (i64 (r.y1 - r.y0)) [] := by
  have hs := Rc.sides h
  unfold inRc at hs
  refine calls_to tok mix Tryz.func41 rfl rfl rfl ?_
  refine Ar.fit (by omega) ?_
  exact .refl

set_option maxRecDepth 100000 in
theorem p_findex (r : Rc) (h : r.canon = r) (x y : Int) : CallsG Tryz.prog 43 [.agg (rcE r), i64 x, i64 y] [] (.tup [i64 (if r.has x y then r.idx x y else 0), pr (r.has x y)]) [] := by
  have hs := Rc.sides h
  have hc := Rc.has_canon r x y
  rw [h] at hc
  unfold inRc at hs
  have hno : ¬ r.has x y → LE (.tup [i64 0, .val (.bool false)]) (.tup [i64 (if r.has x y then r.idx x y else 0), pr (r.has x y)]) := fun k => by
    rw [if_neg k]; exact LE_tup2 LE.refl (LE_false k)
  refine calls_to tok mix Tryz.func43 rfl rfl rfl ?_
  refine Br.mk (fun h1 => ?_) (fun h1 => ?_)
  · exact hno (fun k => by have := hc.1 k; omega)
  refine Br.mk (fun h2 => ?_) (fun h2 => ?_)
  · exact hno (fun k => by have := hc.1 k; omega)
  refine Br.mk (fun h3 => ?_) (fun h3 => ?_)
  · exact hno (fun k => by have := hc.1 k; omega)
  refine Br.mk (fun h4 => ?_) (fun h4 => ?_)
  · exact hno (fun k => by have := hc.1 k; omega)
  have hh : r.has x y := hc.2 (by omega)
  have hi := (Rc.idx_has hh).1
  have hm := mulb (a := y - r.y0) (b := r.x1 - r.x0) (A := 8192) (B := 8192) (by omega) (by omega) (by omega) (by omega)
  refine Dr.dyn (Ob.mk (by decide +kernel) ?_)
  refine Ar.fit (by omega) ?_
  refine CallV.to _ (p_fwide r h) rfl ?_
  refine Ar.fit (by omega) ?_
  refine Ar.fit (by omega) ?_
  refine Ar.fit (by omega) ?_
  refine Ob.mk (by kernel_rfl) ?_
  rw [if_pos hh, hi]
  exact LE_tup2 (LE_int (by unfold Rc.w; omega)) (LE_true hh)
theorem p_reach (n : Int) : CallsG Tryz.prog 65 [i64 n] [] (pr (inRc n)) [] := by
  refine calls_to tok mix Tryz.func65 rfl rfl rfl ?_
  refine Br.mk (fun h1 => ?_) (fun h1 => LE_false (fun h => h1 h.1))
  exact LE_pr ⟨fun h => ⟨h1, h⟩, fun h => h.2⟩
theorem r_reach (n : Int) : CallsG Tryz.prog 68 [i64 n] [] (pr (inRc n)) [] := by
  refine calls_to tok mix Tryz.func68 rfl rfl rfl ?_
  refine Br.mk (fun h1 => ?_) (fun h1 => LE_false (fun h => h1 h.1))
  exact LE_pr ⟨fun h => ⟨h1, h⟩, fun h => h.2⟩

end Go.Gs
/- Bitmaps that are made, the program's. -/
namespace Go.Gs
open Go.Proofs

theorem gridN_step {α : Type} {r : Rc} {g : Int → Int → α} {i j : Nat} (hj : (j : Int) < r.w) : gridN r g (i * r.w.toNat + j) ++ [g (r.x0 + j) (r.y0 + i)] = gridN r g (i * r.w.toNat + (j + 1)) := by
  rw [← Nat.add_assoc, gridN_succ]
  have h := rowcol (w := r.w) (k := i) (c := j) (by omega) hj
  have e : ((i * r.w.toNat + j : Nat) : Int) = i * r.w + j := by
    rw [Int.natCast_add, Int.natCast_mul, Int.toNat_of_nonneg (by omega)]
  rw [e, h.1, h.2]
theorem gridN_row {α : Type} {r : Rc} {g : Int → Int → α} {i : Nat} : gridN r g (i * r.w.toNat + r.w.toNat) = gridN r g ((i + 1) * r.w.toNat) := by
  rw [Nat.add_mul, Nat.one_mul]
theorem gridN_full {α : Type} {r : Rc} {g : Int → Int → α} (h : r.canon = r) : gridN r g (r.h.toNat * r.w.toNat) = grid r g := by
  unfold grid
  rw [Rc.area_canon h]
  obtain ⟨_, _, _, _, h1, _, h2, _, _⟩ := Rc.sides h
  rw [Int.toNat_mul h1 h2, Nat.mul_comm]
/-- The pixel in row 'i' and column 'j' of a rectangle. -/
theorem grid_place {r : Rc} (h : r.canon = r) {i j : Nat} (hi : (i : Int) < r.h) (hj : (j : Int) < r.w) : r.has (r.x0 + j) (r.y0 + i) ∧ ((i * r.w.toNat + j : Nat) : Int) < r.area ∧ r.idx (r.x0 + j) (r.y0 + i) = ((i * r.w.toNat + j : Nat) : Int) := by
  have e : ((i * r.w.toNat + j : Nat) : Int) = i * r.w + j := by
    rw [Int.natCast_add, Int.natCast_mul, Int.toNat_of_nonneg (by omega)]
  have h1 := idx_lt (w := r.w) (h := r.h) (k := i) (c := j) (by omega) hj (by omega) hi
  have hh : r.has (r.x0 + j) (r.y0 + i) := by
    rw [Rc.has_canon, h]
    unfold Rc.w at hj; unfold Rc.h at hi
    omega
  refine ⟨hh, ?_, ?_⟩
  · rw [e, Rc.area_canon h]; exact h1.2
  · rw [(Rc.idx_has hh).1, e, show r.y0 + i - r.y0 = (i : Int) by omega, show r.x0 + j - r.x0 = (j : Int) by omega]
theorem gOne (d : Pix) : [d].length = 1 ∧ 1 ≤ 281474976710656 ∧ 1 * 4 ≤ 16777216 ∧ 0 < 4 ∧ ∀ x ∈ [d], (pixE x).length = 4 ∧ cellsB (pixE x) = true ∧ flat.flats (pixE x) = true :=
  ⟨rfl, by decide, by decide, by decide, fun _ _ => ⟨rfl, rfl, rfl⟩⟩
theorem gApp {xs : List Pix} (d : Pix) (h : xs.length ≤ 100000) : ((xs.length + [d].length : Int) * (4 : Nat) ≤ 140737488355328 ∧ xs.length + [d].length ≤ 281474976710656 ∧ 0 < 4 ∧ ∀ x ∈ [d], (pixE x).length = 4) :=
  ⟨by simp only [List.length_singleton]; omega, by simp only [List.length_singleton]; omega, by decide, fun _ _ => rfl⟩
/-- A bitmap whose pixels are a block of one's own. -/
def bmO (b : Rc) : SV := .agg [i64 b.x0, i64 b.y0, i64 b.x1, i64 b.y1, .own 0]
/-- A bitmap, or none and an error. -/
def bmR (q : Bm × Int) : SV := .tup [bmO q.1.b, i64 q.2]
theorem bad_bm {q : Bm × Int} {e : Int} (h : q = (zeroB, e)) : Take none (.tup [.agg [i64 0, i64 0, i64 0, i64 0, .val (.slice none 0 0)], i64 e]) (bmR q) ∧ q.1.px = [] := by
  subst h
  exact ⟨take_tup (.cons (take_agg (.cons (take_int rfl) (.cons (take_int rfl) (.cons (take_int rfl) (.cons (take_int rfl) (.cons (.nil rfl) .nil)))))) (.cons (take_int rfl) .nil)), rfl⟩

theorem p_new1 (p : Pix) (x y : Int) : CallsG Tryz.prog 94 [i64 x, i64 y, .ptr (pixE p)] [] (.agg (pixE (clampP p))) [] := by
  refine calls_to tok mix Tryz.func94 rfl rfl rfl ?_
  refine CallV.to _ (p_clamp p) rfl ?_
  exact .refl

set_option maxRecDepth 100000 in
set_option maxHeartbeats 4000000 in
theorem p_made1 (r : Rc) (hA : r.area ≤ 65536) (p : Pix) :
    CallsG Tryz.prog 56 [.agg (rcE r), .fn 94 [.ptr (pixE p)]] [] (bmO r.canon) [(0, .arr 57 pixE 4 (grid r.canon (fun _ _ => clampP p)))] := by
  have pc := p_canon r
  have hc := r.canon_canon
  have eA : r.canon.area = r.area := by unfold Rc.area; rw [hc]
  rw [← eA] at hA
  clear eA
  generalize r.canon = c at *
  have hsd := Rc.sides hc
  unfold inRc at hsd
  have ew : c.w = c.x1 - c.x0 := rfl
  have eh : c.h = c.y1 - c.y0 := rfl
  obtain ⟨g, hg⟩ : ∃ g : Int → Int → Pix, g = (fun _ _ => clampP p) := ⟨_, rfl⟩
  rw [← hg]
  have hat : ∀ x y : Int, CallsG Tryz.prog 94 [i64 x, i64 y, .ptr (pixE p)] [] (.agg (pixE (g x y))) [] := fun x y => hg ▸ (p_new1 p x y)
  clear hg
  refine calls_own tok mix Tryz.func56 rfl rfl rfl ?_
  refine CallV.to _ pc rfl ?_
  refine ⟨Nat, fun i => ⟨[(6, i64 (c.y0 + (i : Int))), (1, .fn 94 [.ptr (pixE p)]), (2, .loc 0 0), (4, .loc 1 0), (5, .loc 2 0)], [(3, .arr 57 pixE 4 (gridN c (g) (i * c.w.toNat))), (2, .box 26 [i64 c.x0, i64 c.y0, i64 c.x1, i64 c.y1, .own 3]), (1, .box 26 [i64 0, i64 0, i64 0, i64 0, .val (.slice none 0 0)]), (0, .box 23 (rcE r))], 4, 41, 0⟩,
    fun i => (i : Int) ≤ c.h, fun i => (c.h - i).toNat, 0, ?_, ?_, ?_⟩
  · show (0 : Int) ≤ c.h; omega
  · exact sub_of [(0, some 0), (1, some 1), (2, some 2), (3, none)] rfl rfl rfl ⟨congrArg (fun n => some (i64 n)) (show c.y0 = c.y0 + ((0 : Nat) : Int) by omega), rfl, rfl, rfl, rfl, trivial⟩ ⟨by rw [Nat.zero_mul]; rfl, rfl, rfl, rfl, trivial⟩
  rintro i hi
  have hi : (i : Int) ≤ c.h := hi
  refine Br.mk (fun g9 => ?_) (fun g9 => ?_)
  · have g9 : (i : Int) < c.h := by omega
    refine ⟨Nat, fun j => ⟨[(7, i64 (c.x0 + (j : Int))), (6, i64 (c.y0 + (i : Int))), (1, .fn 94 [.ptr (pixE p)]), (2, .loc 0 0), (4, .loc 1 0), (5, .loc 2 0)], [(3, .arr 57 pixE 4 (gridN c (g) (i * c.w.toNat + j))), (2, .box 26 [i64 c.x0, i64 c.y0, i64 c.x1, i64 c.y1, .own 3]), (1, .box 26 [i64 0, i64 0, i64 0, i64 0, .val (.slice none 0 0)]), (0, .box 23 (rcE r))], 4, 41, 0⟩,
      fun j => (j : Int) ≤ c.w, fun j => (c.w - j).toNat, 0, ?_, ?_, ?_⟩
    · show (0 : Int) ≤ c.w; omega
    · exact sub_of [(0, some 0), (1, some 1), (2, some 2), (3, some 3)] rfl rfl rfl ⟨congrArg (fun n => some (i64 n)) (show c.x0 = c.x0 + ((0 : Nat) : Int) by omega), rfl, rfl, rfl, rfl, rfl, trivial⟩ ⟨rfl, rfl, rfl, rfl, trivial⟩
    rintro j hj
    have hj : (j : Int) ≤ c.w := hj
    refine Br.mk (fun k1 => ?_) (fun k1 => ?_)
    · have k1 : (j : Int) < c.w := by omega
      have hp := grid_place hc g9 k1
      have hij := hp.2.1
      refine Dr.mk (by decide +kernel) ?_
      refine CallV.to _ (hat (c.x0 + j) (c.y0 + i)) rfl ?_
      refine ⟨Pix, pixE, [g (c.x0 + j) (c.y0 + i)], rfl, Ob.mk (gOne _) ?_⟩
      refine ⟨_, rfl, Ob.mk (gApp _ (by rw [gridN_len]; omega)) ?_⟩
      refine Ar.fit (by omega) ?_
      refine ⟨j + 1, (by show ((j + 1 : Nat) : Int) ≤ c.w; omega), sub_of [(0, some 0), (1, some 1), (2, some 2), (3, some 5)] rfl rfl rfl
        ⟨congrArg (fun n => some (i64 n)) (show c.x0 + j + 1 = c.x0 + ((j + 1 : Nat) : Int) by omega), rfl, rfl, rfl, rfl, rfl, trivial⟩
        ⟨congrArg (fun l => some (Mem.arr 57 pixE 4 l)) (gridN_step k1), rfl, rfl, rfl, trivial⟩, (by dsimp only; omega)⟩
    · have hjw : j = c.w.toNat := by omega
      refine Ar.fit (by omega) ?_
      refine ⟨i + 1, (by show ((i + 1 : Nat) : Int) ≤ c.h; omega), sub_of [(0, some 0), (1, some 1), (2, some 2), (3, some 3)] rfl rfl rfl
        ⟨congrArg (fun n => some (i64 n)) (show c.y0 + i + 1 = c.y0 + ((i + 1 : Nat) : Int) by omega), rfl, rfl, rfl, rfl, trivial⟩
        ⟨congrArg (fun l => some (Mem.arr 57 pixE 4 l)) (by rw [hjw, gridN_row]), rfl, rfl, rfl, trivial⟩, (by dsimp only; omega)⟩
  · have hih : i = c.h.toNat := by omega
    exact ⟨some 3, take_agg (.cons (take_int rfl) (.cons (take_int rfl) (.cons (take_int rfl) (.cons (take_int rfl) (.cons (.own _ rfl) .nil))))), by rw [hih, ← gridN_full hc]; rfl, fun _ _ => rfl⟩

set_option maxRecDepth 100000 in
theorem p_over1 (mode : Int) (s d : Bm) (m : Mk) (hs : s.ok) (hd : d.ok) (hm : m.ok) (s8 : B8 s) (d8 : B8 d) (m8 : ∀ c ∈ m.cv, R8 c) (x y : Int) :
    CallsG Tryz.prog 57 [i64 x, i64 y, .ptr [i64 mode], .ptr (bmE s), .ptr (bmE d), .ptr (mkE m)] [] (.agg (pixE (coverP mode (s.at_ x y) (d.at_ x y) (m.at_ x y)))) [] := by
  refine calls_to tok mix Tryz.func57 rfl rfl rfl ?_
  refine Dr.mk (by decide +kernel) ?_
  refine CallV.to _ (p_bat s hs x y) rfl ?_
  refine CallV.to _ (p_bat d hd x y) rfl ?_
  refine CallV.to _ (p_level m hm x y) rfl ?_
  refine CallV.to _ (p_cover mode (s.at_ x y) (d.at_ x y) (m.at_ x y) (Bm.at_8 s8 x y) (Bm.at_8 d8 x y) (Mk.at_8 m8 x y)) rfl ?_
  exact .refl

set_option maxRecDepth 100000 in
set_option maxHeartbeats 4000000 in
theorem p_made2 (r : Rc) (hA : r.area ≤ 65536) (mode : Int) (s d : Bm) (m : Mk) (hs : s.ok) (hd : d.ok) (hm : m.ok) (s8 : B8 s) (d8 : B8 d) (m8 : ∀ c ∈ m.cv, R8 c) :
    CallsG Tryz.prog 56 [.agg (rcE r), .fn 57 [.ptr [i64 mode], .ptr (bmE s), .ptr (bmE d), .ptr (mkE m)]] [] (bmO r.canon) [(0, .arr 57 pixE 4 (grid r.canon (fun x y => coverP mode (s.at_ x y) (d.at_ x y) (m.at_ x y))))] := by
  have pc := p_canon r
  have hc := r.canon_canon
  have eA : r.canon.area = r.area := by unfold Rc.area; rw [hc]
  rw [← eA] at hA
  clear eA
  generalize r.canon = c at *
  have hsd := Rc.sides hc
  unfold inRc at hsd
  have ew : c.w = c.x1 - c.x0 := rfl
  have eh : c.h = c.y1 - c.y0 := rfl
  obtain ⟨g, hg⟩ : ∃ g : Int → Int → Pix, g = (fun x y => coverP mode (s.at_ x y) (d.at_ x y) (m.at_ x y)) := ⟨_, rfl⟩
  rw [← hg]
  have hat : ∀ x y : Int, CallsG Tryz.prog 57 [i64 x, i64 y, .ptr [i64 mode], .ptr (bmE s), .ptr (bmE d), .ptr (mkE m)] [] (.agg (pixE (g x y))) [] := fun x y => hg ▸ (p_over1 mode s d m hs hd hm s8 d8 m8 x y)
  clear hg
  refine calls_own tok mix Tryz.func56 rfl rfl rfl ?_
  refine CallV.to _ pc rfl ?_
  refine ⟨Nat, fun i => ⟨[(6, i64 (c.y0 + (i : Int))), (1, .fn 57 [.ptr [i64 mode], .ptr (bmE s), .ptr (bmE d), .ptr (mkE m)]), (2, .loc 0 0), (4, .loc 1 0), (5, .loc 2 0)], [(3, .arr 57 pixE 4 (gridN c (g) (i * c.w.toNat))), (2, .box 26 [i64 c.x0, i64 c.y0, i64 c.x1, i64 c.y1, .own 3]), (1, .box 26 [i64 0, i64 0, i64 0, i64 0, .val (.slice none 0 0)]), (0, .box 23 (rcE r))], 4, 41, 0⟩,
    fun i => (i : Int) ≤ c.h, fun i => (c.h - i).toNat, 0, ?_, ?_, ?_⟩
  · show (0 : Int) ≤ c.h; omega
  · exact sub_of [(0, some 0), (1, some 1), (2, some 2), (3, none)] rfl rfl rfl ⟨congrArg (fun n => some (i64 n)) (show c.y0 = c.y0 + ((0 : Nat) : Int) by omega), rfl, rfl, rfl, rfl, trivial⟩ ⟨by rw [Nat.zero_mul]; rfl, rfl, rfl, rfl, trivial⟩
  rintro i hi
  have hi : (i : Int) ≤ c.h := hi
  refine Br.mk (fun g9 => ?_) (fun g9 => ?_)
  · have g9 : (i : Int) < c.h := by omega
    refine ⟨Nat, fun j => ⟨[(7, i64 (c.x0 + (j : Int))), (6, i64 (c.y0 + (i : Int))), (1, .fn 57 [.ptr [i64 mode], .ptr (bmE s), .ptr (bmE d), .ptr (mkE m)]), (2, .loc 0 0), (4, .loc 1 0), (5, .loc 2 0)], [(3, .arr 57 pixE 4 (gridN c (g) (i * c.w.toNat + j))), (2, .box 26 [i64 c.x0, i64 c.y0, i64 c.x1, i64 c.y1, .own 3]), (1, .box 26 [i64 0, i64 0, i64 0, i64 0, .val (.slice none 0 0)]), (0, .box 23 (rcE r))], 4, 41, 0⟩,
      fun j => (j : Int) ≤ c.w, fun j => (c.w - j).toNat, 0, ?_, ?_, ?_⟩
    · show (0 : Int) ≤ c.w; omega
    · exact sub_of [(0, some 0), (1, some 1), (2, some 2), (3, some 3)] rfl rfl rfl ⟨congrArg (fun n => some (i64 n)) (show c.x0 = c.x0 + ((0 : Nat) : Int) by omega), rfl, rfl, rfl, rfl, rfl, trivial⟩ ⟨rfl, rfl, rfl, rfl, trivial⟩
    rintro j hj
    have hj : (j : Int) ≤ c.w := hj
    refine Br.mk (fun k1 => ?_) (fun k1 => ?_)
    · have k1 : (j : Int) < c.w := by omega
      have hp := grid_place hc g9 k1
      have hij := hp.2.1
      refine Dr.mk (by decide +kernel) ?_
      refine CallV.to _ (hat (c.x0 + j) (c.y0 + i)) rfl ?_
      refine ⟨Pix, pixE, [g (c.x0 + j) (c.y0 + i)], rfl, Ob.mk (gOne _) ?_⟩
      refine ⟨_, rfl, Ob.mk (gApp _ (by rw [gridN_len]; omega)) ?_⟩
      refine Ar.fit (by omega) ?_
      refine ⟨j + 1, (by show ((j + 1 : Nat) : Int) ≤ c.w; omega), sub_of [(0, some 0), (1, some 1), (2, some 2), (3, some 5)] rfl rfl rfl
        ⟨congrArg (fun n => some (i64 n)) (show c.x0 + j + 1 = c.x0 + ((j + 1 : Nat) : Int) by omega), rfl, rfl, rfl, rfl, rfl, trivial⟩
        ⟨congrArg (fun l => some (Mem.arr 57 pixE 4 l)) (gridN_step k1), rfl, rfl, rfl, trivial⟩, (by dsimp only; omega)⟩
    · have hjw : j = c.w.toNat := by omega
      refine Ar.fit (by omega) ?_
      refine ⟨i + 1, (by show ((i + 1 : Nat) : Int) ≤ c.h; omega), sub_of [(0, some 0), (1, some 1), (2, some 2), (3, some 3)] rfl rfl rfl
        ⟨congrArg (fun n => some (i64 n)) (show c.y0 + i + 1 = c.y0 + ((i + 1 : Nat) : Int) by omega), rfl, rfl, rfl, rfl, trivial⟩
        ⟨congrArg (fun l => some (Mem.arr 57 pixE 4 l)) (by rw [hjw, gridN_row]), rfl, rfl, rfl, trivial⟩, (by dsimp only; omega)⟩
  · have hih : i = c.h.toNat := by omega
    exact ⟨some 3, take_agg (.cons (take_int rfl) (.cons (take_int rfl) (.cons (take_int rfl) (.cons (take_int rfl) (.cons (.own _ rfl) .nil))))), by rw [hih, ← gridN_full hc]; rfl, fun _ _ => rfl⟩

/-- New. -/
def newBm (r : Rc) (p : Pix) : Bm × Int := if ¬ r.ok then (zeroB, 6) else if 65536 < r.area then (zeroB, 5) else (⟨r.canon, grid r.canon fun _ _ => clampP p⟩, 0)
set_option maxRecDepth 100000 in
theorem p_new (r : Rc) (p : Pix) : CallsG Tryz.prog 52 [.agg (rcE r), .agg (pixE p)] [] (bmR (newBm r p)) [(0, .arr 57 pixE 4 (newBm r p).1.px)] := by
  generalize hq : newBm r p = q
  refine calls_own tok mix Tryz.func52 rfl rfl rfl ?_
  refine CallV.to _ (p_valid r) rfl ?_
  refine Br.mk (fun h1 => ⟨none, bad_bm (q := q) (e := 6) (by rw [← hq, newBm, if_pos h1])⟩) (fun h1 => ?_)
  refine CallV.to _ (p_area r) rfl ?_
  refine Br.mk (fun h2 => ⟨none, bad_bm (q := q) (e := 5) (by rw [← hq, newBm, if_neg h1, if_pos h2])⟩) (fun h2 => ?_)
  have hA : r.area ≤ 65536 := by omega
  have e : q = (⟨r.canon, grid r.canon fun _ _ => clampP p⟩, 0) := by rw [← hq, newBm, if_neg h1, if_neg h2]
  clear hq
  subst e
  refine CallV.fresh _ _ (p_made1 r hA p) rfl (fun _ _ => rfl) (.inr (fun _ _ => rfl)) ?_
  exact ⟨some 3, take_tup (.cons (take_agg (.cons (take_int rfl) (.cons (take_int rfl) (.cons (take_int rfl) (.cons (take_int rfl) (.cons (.own _ rfl) .nil)))))) (.cons (take_int rfl) .nil)), rfl, fun _ _ => rfl⟩

theorem p_all1 (s : Bm) : CallsG Tryz.prog 98 [.agg (bmE s)] [] (pr (¬ s.ok)) [] := by
  refine calls_to tok mix Tryz.func98 rfl rfl rfl ?_
  refine CallV.to _ (p_bvalid s) rfl ?_
  exact LE_pr Iff.rfl
def badBm (xs : List Bm) : Int := match xs.findIdx? (fun p => decide (¬ p.ok)) with
  | some i => i
  | none => -1
theorem badBm_at {xs : List Bm} {i : Nat} {p : Bm} (h : ∀ (j : Nat) q, j < i → xs[j]? = some q → q.ok) (hi : xs[i]? = some p) (hp : ¬ p.ok) : badBm xs = i := by
  have : xs.findIdx? (fun p => decide (¬ p.ok)) = some i := by
    rw [List.findIdx?_eq_some_iff_getElem]
    obtain ⟨hl, he⟩ := List.getElem?_eq_some_iff.1 hi
    refine ⟨hl, by simp [he, hp], fun j hj => ?_⟩
    have := h j xs[j] hj (List.getElem?_eq_getElem _)
    simp [this]
  simp only [badBm, this]
theorem badBm_none {xs : List Bm} (h : ∀ p ∈ xs, p.ok) : badBm xs = -1 := by
  have : xs.findIdx? (fun p => decide (¬ p.ok)) = none := by
    rw [List.findIdx?_eq_none_iff]
    intro p hp
    simp [h p hp]
  simp only [badBm, this]
theorem badBm_nonneg {xs : List Bm} : 0 ≤ badBm xs ↔ ¬ ∀ p ∈ xs, p.ok := by
  constructor
  · intro h hall
    rw [badBm_none hall] at h; omega
  · intro h
    unfold badBm
    split
    · omega
    · rename_i hn
      rw [List.findIdx?_eq_none_iff] at hn
      exact absurd (fun p hp => by simpa using hn p hp) h
theorem p_aindex (xs : List Bm) (hl : xs.length ≤ 9223372036854775807) : CallsG Tryz.prog 156 [.sl bmE xs, .fn 98 []] [] (i64 (badBm xs)) [] := by
  refine calls_to tok mix Tryz.func156 rfl rfl rfl ?_
  intro hl0
  refine ⟨Int, fun i => ⟨[(8, i64 i), (7, i64 xs.length), (0, .sl bmE xs), (1, .fn 98 [])], [], 0, 19, 0⟩, fun i => 0 ≤ i ∧ i ≤ xs.length ∧ ∀ (j : Nat) q, (j : Int) < i → xs[j]? = some q → q.ok, fun i => ((xs.length : Int) - i).toNat, 0, ?_, ?_, ?_⟩
  · exact ⟨by omega, by omega, fun j q hj => by omega⟩
  · exact sub_of [] rfl rfl rfl ⟨rfl, rfl, rfl, rfl, trivial⟩ trivial
  rintro i ⟨h1, h2, h3⟩
  refine Br.mk (fun h4 => ?_) (fun h4 => ?_)
  · refine Ob.mk (by omega) ?_
    intro x hx
    refine CallV.to _ (p_all1 x) rfl ?_
    refine Br.mk (fun h5 => ?_) (fun h5 => ?_)
    · refine LE_int ?_
      rw [badBm_at (i := i.toNat) (fun j q hj => h3 j q (by omega)) hx h5]; omega
    · refine Ar.fit (by omega) ?_
      refine ⟨i + 1, ⟨by omega, by omega, fun j q hj hq => ?_⟩, sub_of [] rfl rfl rfl ⟨rfl, rfl, rfl, rfl, trivial⟩ trivial, by dsimp only; omega⟩
      by_cases e : j = i.toNat
      · subst e; rw [hx] at hq; cases hq; exact Decidable.not_not.1 h5
      · exact h3 j q (by omega) hq
  · refine LE_int (badBm_none fun p hp => ?_).symm
    obtain ⟨j, hj, he⟩ := List.getElem_of_mem hp
    exact h3 j p (by omega) (by rw [← he]; exact List.getElem?_eq_getElem hj)
theorem p_acontains (xs : List Bm) (hl : xs.length ≤ 9223372036854775807) : CallsG Tryz.prog 97 [.sl bmE xs, .fn 98 []] [] (pr (¬ ∀ p ∈ xs, p.ok)) [] := by
  refine calls_to tok mix Tryz.func97 rfl rfl rfl ?_
  refine CallV.to _ (p_aindex xs hl) rfl ?_
  exact LE_pr badBm_nonneg
theorem p_all (xs : List Bm) (hl : xs.length ≤ 9223372036854775807) : CallsG Tryz.prog 54 [.sl bmE xs] [] (pr (∀ p ∈ xs, p.ok)) [] := by
  refine calls_to tok mix Tryz.func54 rfl rfl rfl ?_
  refine CallV.to _ (p_acontains xs hl) rfl ?_
  exact LE_pr Decidable.not_not
/-- BlendOver. -/
def overB (mode : Int) (s d : Bm) (m : Mk) : Bm × Int :=
  if ¬ (s.ok ∧ d.ok) then (zeroB, 15) else if ¬ m.ok then (zeroB, 14) else if ¬ modeOK mode then (zeroB, 2) else (⟨d.b, grid d.b fun x y => coverP mode (s.at_ x y) (d.at_ x y) (m.at_ x y)⟩, 0)
theorem two_ok {s d : Bm} : (∀ p ∈ [s, d], p.ok) ↔ (s.ok ∧ d.ok) := by simp
set_option maxRecDepth 100000 in
theorem p_over (mode : Int) (s d : Bm) (m : Mk) (s8 : B8 s) (d8 : B8 d) (m8 : ∀ c ∈ m.cv, R8 c) : CallsG Tryz.prog 23 [i64 mode, .agg (bmE s), .agg (bmE d), .agg (mkE m)] [] (bmR (overB mode s d m)) [(0, .arr 57 pixE 4 (overB mode s d m).1.px)] := by
  generalize hq : overB mode s d m = q
  refine calls_own tok mix Tryz.func23 rfl rfl rfl ?_
  refine ⟨Bm, bmE, [s, d], rfl, Ob.mk ⟨rfl, by decide, by decide, by decide, fun x hx => ⟨rfl, rfl, rfl⟩⟩ ?_⟩
  refine CallV.to _ (p_all [s, d] (show 2 ≤ 9223372036854775807 by decide)) rfl ?_
  refine Br.mk (fun h1 => ⟨none, bad_bm (q := q) (e := 15) (by rw [← hq, overB, if_pos (fun k => h1 (two_ok.2 k))])⟩) (fun h1 => ?_)
  have h1 := two_ok.1 (Decidable.not_not.1 h1)
  refine CallV.to _ (p_mvalid m) rfl ?_
  refine Br.mk (fun h2 => ⟨none, bad_bm (q := q) (e := 14) (by rw [← hq, overB, if_neg (fun k => k h1), if_pos h2])⟩) (fun h2 => ?_)
  refine CallV.to _ (p_mode mode) rfl ?_
  refine Br.mk (fun h3 => ⟨none, bad_bm (q := q) (e := 2) (by rw [← hq, overB, if_neg (fun k => k h1), if_neg h2, if_pos h3])⟩) (fun h3 => ?_)
  have e : q = (⟨d.b, grid d.b fun x y => coverP mode (s.at_ x y) (d.at_ x y) (m.at_ x y)⟩, 0) := by rw [← hq, overB, if_neg (fun k => k h1), if_neg h2, if_neg h3]
  clear hq
  subst e
  have key := p_made2 d.b h1.2.2.1 mode s d m h1.1 h1.2 (Decidable.not_not.1 h2) s8 d8 m8
  rw [h1.2.1] at key
  refine CallV.fresh _ _ key rfl (fun _ _ => rfl) (.inr (fun _ _ => rfl)) ?_
  exact ⟨some 6, take_tup (.cons (take_agg (.cons (take_int rfl) (.cons (take_int rfl) (.cons (take_int rfl) (.cons (take_int rfl) (.cons (.own _ rfl) .nil)))))) (.cons (take_int rfl) .nil)), rfl, fun _ _ => rfl⟩

end Go.Gs
/- The reference's fills with a paint. -/
namespace Go.Gs
open Go.Proofs

/-- What a paint shows at a pixel; nothing where it has no brush. -/
def lookP (p : Pnt) (t : AF) (x y : Int) : Pix := if nbErr p t = 0 then atP p t x y else zeroP
def withB (f : Int → Int → Pix) (d : Bm) (m : Mk) (mode : Int) : Bm × Int :=
  if ¬ d.ok then (zeroB, 15) else if ¬ m.ok then (zeroB, 14) else if ¬ modeOK mode then (zeroB, 2) else (⟨d.b, grid d.b fun x y => coverP mode (f x y) (d.at_ x y) (m.at_ x y)⟩, 0)
def brushB (f : Int → Int → Pix) (r : Rc) : Bm × Int :=
  if ¬ r.ok then (zeroB, 6) else if 65536 < r.area then (zeroB, 5) else (⟨r.canon, grid r.canon f⟩, 0)
theorem place_px {s : Bm} (h : s.ok) {x y n : Int} (hh : s.b.has x y) (e : s.b.idx x y = n) {q : Pix} (hq : s.px[n.toNat]? = some q) : q = s.at_ x y := by
  subst e
  exact Option.some.inj (hq.symm.trans (Bm.get h hh))

set_option maxRecDepth 100000 in
theorem r_look (p : Pnt) (t : AF) (x y : Int) (hp : p.t.le 12) (ht : t.le 12) (h8 : P8p p) : CallsG Tryz.prog 50 [.agg (pntE p), .agg (afE t), i64 x, i64 y] [] (.agg (pixE (lookP p t x y))) [] := by
  refine calls_to tok mix Tryz.func50 rfl rfl rfl ?_
  refine CallV.to _ (c_at' p t x y hp ht h8) rfl ?_
  exact .refl
theorem smp_8 {m : Img} {look md : Int} {x y : Rat} (h8 : ∀ q ∈ m.px, P8 q) : P8 (smp m look md x y) := by
  unfold smp
  by_cases h : (look = 1 ∨ look = 2) ∧ imgOK m ∧ nearQ x ∧ nearQ y
  · rw [if_pos h]
    by_cases e : look = 2
    · rw [if_pos e]
      have hf : 0 ≤ fineQ x % 256 ∧ fineQ x % 256 ≤ 255 := by omega
      have hg : 0 ≤ fineQ y % 256 ∧ fineQ y % 256 ≤ 255 := by omega
      have h8n : ∀ n, P8 (px4 m md (fineQ x / 256) (fineQ y / 256) n) := fun n => texelI_P8 h8 _ _ _
      exact ⟨bR_range (acc4 hf hg fun n => (h8n n).1), bR_range (acc4 hf hg fun n => (h8n n).2.1), bR_range (acc4 hf hg fun n => (h8n n).2.2.1), bR_range (acc4 hf hg fun n => (h8n n).2.2.2)⟩
    · rw [if_neg e]; exact texelI_P8 h8 _ _ _
  · rw [if_neg h]; exact zero_8
theorem atP_8 {p : Pnt} {t : AF} {x y : Int} (h8 : P8p p) : P8 (atP p t x y) := by
  unfold atP srcP
  split
  · exact zero_8
  split
  · exact preP_8 h8.1
  split
  · exact preP_8 (spCol_8 h8.2.1)
  split
  · exact preP_8 (spCol_8 h8.2.1)
  · exact smp_8 h8.2.2
theorem lookP_8 {p : Pnt} (t : AF) (h8 : P8p p) (x y : Int) : P8 (lookP p t x y) := by
  unfold lookP
  split
  · exact atP_8 h8
  · exact zero_8

set_option maxRecDepth 100000 in
set_option maxHeartbeats 4000000 in
theorem r_withBrush (d : Bm) (m : Mk) (p : Pnt) (t : AF) (mode : Int) (d8 : B8 d) (m8 : ∀ c ∈ m.cv, R8 c) (hp : p.t.le 12) (ht : t.le 12) (h8 : P8p p) :
    CallsG Tryz.prog 16 [.agg (bmE d), .agg (mkE m), .agg (pntE p), .agg (afE t), i64 mode] [] (bmR (withB (lookP p t) d m mode)) [(0, .arr 57 pixE 4 (withB (lookP p t) d m mode).1.px)] := by
  generalize hq : withB (lookP p t) d m mode = q
  refine calls_own tok mix Tryz.func16 rfl rfl rfl ?_
  refine CallV.to _ (r_bvalid d) rfl ?_
  refine Br.mk (fun h1 => ⟨none, bad_bm (q := q) (e := 15) (by rw [← hq, withB, if_pos h1])⟩) (fun h1 => ?_)
  refine CallV.to _ (r_mvalid m) rfl ?_
  refine Br.mk (fun h2 => ⟨none, bad_bm (q := q) (e := 14) (by rw [← hq, withB, if_neg h1, if_pos h2])⟩) (fun h2 => ?_)
  refine CallV.to _ (r_mode mode) rfl ?_
  refine Br.mk (fun h3 => ⟨none, bad_bm (q := q) (e := 2) (by rw [← hq, withB, if_neg h1, if_neg h2, if_pos h3])⟩) (fun h3 => ?_)
  obtain ⟨g, hg⟩ : ∃ g : Int → Int → Pix, g = (fun x y => coverP mode (lookP p t x y) (d.at_ x y) (m.at_ x y)) := ⟨_, rfl⟩
  have e : q = (⟨d.b, grid d.b g⟩, 0) := by rw [← hq, withB, if_neg h1, if_neg h2, if_neg h3, hg]
  have hcov : ∀ x y : Int, CallsG Tryz.prog 49 [i64 mode, .agg (pixE (lookP p t x y)), .agg (pixE (d.at_ x y)), u8 (m.at_ x y)] [] (.agg (pixE (g x y))) [] := fun x y => hg ▸ r_cover mode (lookP p t x y) (d.at_ x y) (m.at_ x y) (lookP_8 t h8 x y) (Bm.at_8 d8 x y) (Mk.at_8 m8 x y)
  have hd := Decidable.not_not.1 h1
  have hm := Decidable.not_not.1 h2
  have hc := hd.1
  have hA := hd.2.1
  have hl := hd.2.2.1
  clear hg hq
  subst e
  have hsd := Rc.sides hc
  unfold inRc at hsd
  have ew : d.b.w = d.b.x1 - d.b.x0 := rfl
  have eh : d.b.h = d.b.y1 - d.b.y0 := rfl
  refine ⟨Nat, fun i => ⟨[(14, i64 (d.b.y0 + (i : Int))), (13, i64 ((i * d.b.w.toNat : Nat) : Int)), (4, i64 mode), (5, .loc 0 0), (6, .loc 1 0), (7, .loc 2 0), (8, .loc 3 0), (10, .loc 4 0), (12, .loc 5 0)], [(6, .arr 57 pixE 4 (gridN d.b (g) (i * d.b.w.toNat))), (5, .box 26 [i64 d.b.x0, i64 d.b.y0, i64 d.b.x1, i64 d.b.y1, .own 6]), (4, .box 26 [i64 0, i64 0, i64 0, i64 0, .val (.slice none 0 0)]), (3, .box 43 (afE t)), (2, .box 45 (pntE p)), (1, .box 29 (mkE m)), (0, .box 26 (bmE d))], 7, 75, 0⟩,
    fun i => (i : Int) ≤ d.b.h, fun i => (d.b.h - i).toNat, 0, ?_, ?_, ?_⟩
  · show (0 : Int) ≤ d.b.h; omega
  · exact sub_of [(0, some 0), (1, some 1), (2, some 2), (3, some 3), (4, some 4), (5, some 5), (6, none)] rfl rfl rfl ⟨congrArg (fun n => some (i64 n)) (show d.b.y0 = d.b.y0 + ((0 : Nat) : Int) by omega), congrArg (fun n => some (i64 n)) (show (0 : Int) = ((0 * d.b.w.toNat : Nat) : Int) by omega), rfl, rfl, rfl, rfl, rfl, rfl, rfl, trivial⟩ ⟨by rw [Nat.zero_mul]; rfl, rfl, rfl, rfl, rfl, rfl, rfl, trivial⟩
  rintro i hi
  have hi : (i : Int) ≤ d.b.h := hi
  refine Br.mk (fun g9 => ?_) (fun g9 => ?_)
  · have g9 : (i : Int) < d.b.h := by omega
    refine ⟨Nat, fun j => ⟨[(15, i64 (d.b.x0 + (j : Int))), (14, i64 (d.b.y0 + (i : Int))), (13, i64 ((i * d.b.w.toNat + j : Nat) : Int)), (4, i64 mode), (5, .loc 0 0), (6, .loc 1 0), (7, .loc 2 0), (8, .loc 3 0), (10, .loc 4 0), (12, .loc 5 0)], [(6, .arr 57 pixE 4 (gridN d.b (g) (i * d.b.w.toNat + j))), (5, .box 26 [i64 d.b.x0, i64 d.b.y0, i64 d.b.x1, i64 d.b.y1, .own 6]), (4, .box 26 [i64 0, i64 0, i64 0, i64 0, .val (.slice none 0 0)]), (3, .box 43 (afE t)), (2, .box 45 (pntE p)), (1, .box 29 (mkE m)), (0, .box 26 (bmE d))], 7, 75, 0⟩,
      fun j => (j : Int) ≤ d.b.w, fun j => (d.b.w - j).toNat, 0, ?_, ?_, ?_⟩
    · show (0 : Int) ≤ d.b.w; omega
    · exact sub_of [(0, some 0), (1, some 1), (2, some 2), (3, some 3), (4, some 4), (5, some 5), (6, some 6)] rfl rfl rfl ⟨congrArg (fun n => some (i64 n)) (show d.b.x0 = d.b.x0 + ((0 : Nat) : Int) by omega), rfl, rfl, rfl, rfl, rfl, rfl, rfl, rfl, rfl, trivial⟩ ⟨rfl, rfl, rfl, rfl, rfl, rfl, rfl, trivial⟩
    rintro j hj
    have hj : (j : Int) ≤ d.b.w := hj
    refine Br.mk (fun k1 => ?_) (fun k1 => ?_)
    · have k1 : (j : Int) < d.b.w := by omega
      have hpl := grid_place hc g9 k1
      have hij := hpl.2.1
      refine Dr.mk (by decide +kernel) ?_
      refine CallV.to _ (r_look p t (d.b.x0 + j) (d.b.y0 + i) hp ht h8) rfl ?_
      refine Ob.mk (by omega) ?_
      intro q hq
      obtain rfl := place_px hd hpl.1 hpl.2.2 hq
      refine CallV.to _ (r_level m hm (d.b.x0 + j) (d.b.y0 + i)) rfl ?_
      refine CallV.to _ (hcov (d.b.x0 + j) (d.b.y0 + i)) rfl ?_
      refine ⟨Pix, pixE, [g (d.b.x0 + j) (d.b.y0 + i)], rfl, Ob.mk (gOne _) ?_⟩
      refine ⟨_, rfl, Ob.mk (gApp _ (by rw [gridN_len]; omega)) ?_⟩
      refine Ar.fit (by omega) ?_
      refine Ar.fit (by omega) ?_
      refine ⟨j + 1, (by show ((j + 1 : Nat) : Int) ≤ d.b.w; omega), sub_of [(0, some 0), (1, some 1), (2, some 2), (3, some 3), (4, some 4), (5, some 5), (6, some 8)] rfl rfl rfl
        ⟨congrArg (fun n => some (i64 n)) (show d.b.x0 + j + 1 = d.b.x0 + ((j + 1 : Nat) : Int) by omega), rfl, rfl, rfl, rfl, rfl, rfl, rfl, rfl, rfl, trivial⟩
        ⟨congrArg (fun l => some (Mem.arr 57 pixE 4 l)) (gridN_step k1), rfl, rfl, rfl, rfl, rfl, rfl, trivial⟩, (by dsimp only; omega)⟩
    · have hjw : j = d.b.w.toNat := by omega
      refine Ar.fit (by omega) ?_
      refine ⟨i + 1, (by show ((i + 1 : Nat) : Int) ≤ d.b.h; omega), sub_of [(0, some 0), (1, some 1), (2, some 2), (3, some 3), (4, some 4), (5, some 5), (6, some 6)] rfl rfl rfl
        ⟨congrArg (fun n => some (i64 n)) (show d.b.y0 + i + 1 = d.b.y0 + ((i + 1 : Nat) : Int) by omega), congrArg (fun n : Nat => some (i64 n)) (by rw [hjw, Nat.add_mul, Nat.one_mul]), rfl, rfl, rfl, rfl, rfl, rfl, rfl, trivial⟩
        ⟨congrArg (fun l => some (Mem.arr 57 pixE 4 l)) (by rw [hjw, gridN_row]), rfl, rfl, rfl, rfl, rfl, rfl, trivial⟩, (by dsimp only; omega)⟩
  · have hih : i = d.b.h.toNat := by omega
    exact ⟨some 6, take_tup (.cons (take_agg (.cons (take_int rfl) (.cons (take_int rfl) (.cons (take_int rfl) (.cons (take_int rfl) (.cons (.own _ rfl) .nil)))))) (.cons (take_int rfl) .nil)), by rw [hih, ← gridN_full hc]; rfl, fun _ _ => rfl⟩

set_option maxRecDepth 100000 in
set_option maxHeartbeats 4000000 in
theorem r_brushB (r : Rc) (p : Pnt) (t : AF) (hp : p.t.le 12) (ht : t.le 12) (h8 : P8p p) :
    CallsG Tryz.prog 22 [.agg (rcE r), .agg (pntE p), .agg (afE t)] [] (bmR (brushB (lookP p t) r)) [(0, .arr 57 pixE 4 (brushB (lookP p t) r).1.px)] := by
  generalize hq : brushB (lookP p t) r = q
  refine calls_own tok mix Tryz.func22 rfl rfl rfl ?_
  refine CallV.to _ (r_valid r) rfl ?_
  refine Br.mk (fun h1 => ⟨none, bad_bm (q := q) (e := 6) (by rw [← hq, brushB, if_pos h1])⟩) (fun h1 => ?_)
  refine CallV.to _ (r_area r) rfl ?_
  refine Br.mk (fun h2 => ⟨none, bad_bm (q := q) (e := 5) (by rw [← hq, brushB, if_neg h1, if_pos h2])⟩) (fun h2 => ?_)
  have e : q = (⟨r.canon, grid r.canon (lookP p t)⟩, 0) := by rw [← hq, brushB, if_neg h1, if_neg h2]
  have hA : r.area ≤ 65536 := by omega
  have pc := r_canon r
  have hc := r.canon_canon
  have eA : r.canon.area = r.area := by unfold Rc.area; rw [hc]
  rw [← eA] at hA
  clear eA hq
  subst e
  generalize r.canon = c at *
  have hsd := Rc.sides hc
  unfold inRc at hsd
  have ew : c.w = c.x1 - c.x0 := rfl
  have eh : c.h = c.y1 - c.y0 := rfl
  refine CallV.to _ pc rfl ?_
  refine ⟨Nat, fun i => ⟨[(9, i64 (c.y0 + (i : Int))), (3, .loc 0 0), (4, .loc 1 0), (5, .loc 2 0), (6, .loc 3 0), (8, .loc 4 0)], [(5, .arr 57 pixE 4 (gridN c ((lookP p t)) (i * c.w.toNat))), (4, .box 26 [i64 c.x0, i64 c.y0, i64 c.x1, i64 c.y1, .own 5]), (3, .box 26 [i64 0, i64 0, i64 0, i64 0, .val (.slice none 0 0)]), (2, .box 43 (afE t)), (1, .box 45 (pntE p)), (0, .box 23 (rcE r))], 6, 53, 0⟩,
    fun i => (i : Int) ≤ c.h, fun i => (c.h - i).toNat, 0, ?_, ?_, ?_⟩
  · show (0 : Int) ≤ c.h; omega
  · exact sub_of [(0, some 0), (1, some 1), (2, some 2), (3, some 3), (4, some 4), (5, none)] rfl rfl rfl ⟨congrArg (fun n => some (i64 n)) (show c.y0 = c.y0 + ((0 : Nat) : Int) by omega), rfl, rfl, rfl, rfl, rfl, trivial⟩ ⟨by rw [Nat.zero_mul]; rfl, rfl, rfl, rfl, rfl, rfl, trivial⟩
  rintro i hi
  have hi : (i : Int) ≤ c.h := hi
  refine Br.mk (fun g9 => ?_) (fun g9 => ?_)
  · have g9 : (i : Int) < c.h := by omega
    refine ⟨Nat, fun j => ⟨[(10, i64 (c.x0 + (j : Int))), (9, i64 (c.y0 + (i : Int))), (3, .loc 0 0), (4, .loc 1 0), (5, .loc 2 0), (6, .loc 3 0), (8, .loc 4 0)], [(5, .arr 57 pixE 4 (gridN c ((lookP p t)) (i * c.w.toNat + j))), (4, .box 26 [i64 c.x0, i64 c.y0, i64 c.x1, i64 c.y1, .own 5]), (3, .box 26 [i64 0, i64 0, i64 0, i64 0, .val (.slice none 0 0)]), (2, .box 43 (afE t)), (1, .box 45 (pntE p)), (0, .box 23 (rcE r))], 6, 53, 0⟩,
      fun j => (j : Int) ≤ c.w, fun j => (c.w - j).toNat, 0, ?_, ?_, ?_⟩
    · show (0 : Int) ≤ c.w; omega
    · exact sub_of [(0, some 0), (1, some 1), (2, some 2), (3, some 3), (4, some 4), (5, some 5)] rfl rfl rfl ⟨congrArg (fun n => some (i64 n)) (show c.x0 = c.x0 + ((0 : Nat) : Int) by omega), rfl, rfl, rfl, rfl, rfl, rfl, trivial⟩ ⟨rfl, rfl, rfl, rfl, rfl, rfl, trivial⟩
    rintro j hj
    have hj : (j : Int) ≤ c.w := hj
    refine Br.mk (fun k1 => ?_) (fun k1 => ?_)
    · have k1 : (j : Int) < c.w := by omega
      have hpl := grid_place hc g9 k1
      have hij := hpl.2.1
      refine Dr.mk (by decide +kernel) ?_
      refine CallV.to _ (r_look p t (c.x0 + j) (c.y0 + i) hp ht h8) rfl ?_
      refine ⟨Pix, pixE, [(lookP p t) (c.x0 + j) (c.y0 + i)], rfl, Ob.mk (gOne _) ?_⟩
      refine ⟨_, rfl, Ob.mk (gApp _ (by rw [gridN_len]; omega)) ?_⟩
      refine Ar.fit (by omega) ?_
      refine ⟨j + 1, (by show ((j + 1 : Nat) : Int) ≤ c.w; omega), sub_of [(0, some 0), (1, some 1), (2, some 2), (3, some 3), (4, some 4), (5, some 7)] rfl rfl rfl
        ⟨congrArg (fun n => some (i64 n)) (show c.x0 + j + 1 = c.x0 + ((j + 1 : Nat) : Int) by omega), rfl, rfl, rfl, rfl, rfl, rfl, trivial⟩
        ⟨congrArg (fun l => some (Mem.arr 57 pixE 4 l)) (gridN_step k1), rfl, rfl, rfl, rfl, rfl, trivial⟩, (by dsimp only; omega)⟩
    · have hjw : j = c.w.toNat := by omega
      refine Ar.fit (by omega) ?_
      refine ⟨i + 1, (by show ((i + 1 : Nat) : Int) ≤ c.h; omega), sub_of [(0, some 0), (1, some 1), (2, some 2), (3, some 3), (4, some 4), (5, some 5)] rfl rfl rfl
        ⟨congrArg (fun n => some (i64 n)) (show c.y0 + i + 1 = c.y0 + ((i + 1 : Nat) : Int) by omega), rfl, rfl, rfl, rfl, rfl, trivial⟩
        ⟨congrArg (fun l => some (Mem.arr 57 pixE 4 l)) (by rw [hjw, gridN_row]), rfl, rfl, rfl, rfl, rfl, trivial⟩, (by dsimp only; omega)⟩
  · have hih : i = c.h.toNat := by omega
    exact ⟨some 5, take_tup (.cons (take_agg (.cons (take_int rfl) (.cons (take_int rfl) (.cons (take_int rfl) (.cons (take_int rfl) (.cons (.own _ rfl) .nil)))))) (.cons (take_int rfl) .nil)), by rw [hih, ← gridN_full hc]; rfl, fun _ _ => rfl⟩

end Go.Gs
