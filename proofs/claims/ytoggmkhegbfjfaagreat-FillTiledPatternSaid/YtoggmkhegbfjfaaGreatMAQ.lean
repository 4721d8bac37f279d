/- Blending, plain: terms, fractions, what they yield. -/
import Derived.Test.YtoggmkhegbfjfaaGreatMAO
import Derived.Test.YtoggmkhegbfjfaaGreatMAN
namespace Go.Gs

theorem mulb {a b A B : Int} (h0 : 0 ≤ a) (h1 : a ≤ A) (k0 : 0 ≤ b) (k1 : b ≤ B) : 0 ≤ a * b ∧ a * b ≤ A * B :=
  ⟨Int.mul_nonneg h0 k0, Int.mul_le_mul h1 k1 k0 (by omega)⟩

theorem rdivp {a b : Int} (ha : 0 ≤ a) (hb : 0 < b) : rdiv a b = (2 * a + b) / (2 * b) := by
  obtain ⟨a, rfl⟩ := Int.eq_ofNat_of_zero_le ha
  obtain ⟨b, rfl⟩ := Int.eq_ofNat_of_zero_le (Int.le_of_lt hb)
  unfold rdiv
  rw [if_pos (by omega)]
  simp
/-- A number divided by 255, rounded, held in a byte. -/
def dn8 (n : Int) : Int := max 0 (min 255 (rdiv n 255))
theorem dn8_pos {n : Int} (h : 0 ≤ n) : dn8 n = min 255 ((2 * n + 255) / 510) := by
  unfold dn8
  rw [rdivp h (by decide)]
  omega
theorem dn8_8 (n : Int) : R8 (dn8 n) := by unfold dn8 R8; omega
theorem dn8_mono {m n : Int} (h : 0 ≤ m) (k : m ≤ n) : dn8 m ≤ dn8 n := by
  rw [dn8_pos h, dn8_pos (by omega)]; omega

def clampP (p : Pix) : Pix := ⟨min p.r p.a, min p.g p.a, min p.b p.a, p.a⟩
def scaleP (p : Pix) (k : Int) : Pix := ⟨mul8 p.r k, mul8 p.g k, mul8 p.b k, mul8 p.a k⟩
theorem clampP_ok (p : Pix) : pxOK (clampP p) := ⟨Int.min_le_right _ _, Int.min_le_right _ _, Int.min_le_right _ _⟩
theorem clampP_8 {p : Pix} (h : P8 p) : P8 (clampP p) := by
  obtain ⟨⟨a, b⟩, ⟨c, d⟩, ⟨e, f⟩, ⟨g, i⟩⟩ := h
  refine ⟨⟨?_, ?_⟩, ⟨?_, ?_⟩, ⟨?_, ?_⟩, ⟨g, i⟩⟩ <;> (unfold clampP; dsimp only; omega)
theorem clampP_self {p : Pix} (h : pxOK p) : clampP p = p := by
  obtain ⟨h1, h2, h3⟩ := h
  unfold clampP
  rw [Int.min_eq_left h1, Int.min_eq_left h2, Int.min_eq_left h3]
theorem scaleP_8 {p : Pix} {k : Int} (h : P8 p) (hk : R8 k) : P8 (scaleP p k) := by
  have h1 := mul8_range h.1 hk
  have h2 := mul8_range h.2.1 hk
  have h3 := mul8_range h.2.2.1 hk
  have h4 := mul8_range h.2.2.2 hk
  unfold R8 at *
  exact ⟨by show R8 (mul8 _ _); unfold R8; omega, by show R8 (mul8 _ _); unfold R8; omega, by show R8 (mul8 _ _); unfold R8; omega, by show R8 (mul8 _ _); unfold R8; omega⟩
theorem mul8_mono {a b k : Int} (h : a ≤ b) (hk : 0 ≤ k) : mul8 a k ≤ mul8 b k := by
  unfold mul8
  have : a * k ≤ b * k := Int.mul_le_mul_of_nonneg_right h hk
  have e1 : 2 * a * k = 2 * (a * k) := Int.mul_assoc ..
  have e2 : 2 * b * k = 2 * (b * k) := Int.mul_assoc ..
  rw [e1, e2]
  omega
theorem scaleP_ok {p : Pix} {k : Int} (h : pxOK p) (hk : 0 ≤ k) : pxOK (scaleP p k) := ⟨mul8_mono h.1 hk, mul8_mono h.2.1 hk, mul8_mono h.2.2 hk⟩

/-! ### Modes that blend each component by itself -/
def hardT (low : Prop) [Decidable low] (s sa d da : Int) : Int := if low then 2 * s * d else sa * da - 2 * (da - d) * (sa - s)
def term8 (mode s sa d da : Int) : Int :=
  if mode = 2 then s * d else if mode = 3 then s * da + d * sa - s * d else if mode = 4 then hardT (2 * d ≤ da) s sa d da
  else if mode = 5 then min (s * da) (d * sa) else if mode = 6 then max (s * da) (d * sa) else if mode = 7 then max (s * da) (d * sa) - min (s * da) (d * sa)
  else if mode = 8 then s * da + d * sa - 2 * s * d else if mode = 9 then hardT (2 * s ≤ sa) s sa d da else s * da
def one8 (mode s sa d da : Int) : Int := dn8 (s * (255 - da) + d * (255 - sa) + term8 mode s sa d da)
def alp8 (sa da : Int) : Int := dn8 (sa * (255 - da) + da * (255 - sa) + sa * da)

/-- What is known of two clamped components. -/
structure Two (s sa d da : Int) : Prop where
  s0 : 0 ≤ s
  s1 : s ≤ sa
  s2 : sa ≤ 255
  d0 : 0 ≤ d
  d1 : d ≤ da
  d2 : da ≤ 255

theorem hardT_range {low : Prop} [Decidable low] {s sa d da : Int} (h : Two s sa d da) (hl : low → 2 * s * d ≤ sa * da) (hh : ¬ low → 2 * (da - d) * (sa - s) ≤ sa * da) : 0 ≤ hardT low s sa d da ∧ hardT low s sa d da ≤ sa * da := by
  unfold hardT
  obtain ⟨h1, h2, h3, h4, h5, h6⟩ := h
  split
  · rename_i hlow
    have e : 2 * s * d = 2 * (s * d) := Int.mul_assoc ..
    have := Int.mul_nonneg h1 h4
    have := hl hlow
    omega
  · rename_i hlow
    have e : 2 * (da - d) * (sa - s) = 2 * ((da - d) * (sa - s)) := Int.mul_assoc ..
    have := Int.mul_nonneg (show 0 ≤ da - d by omega) (show 0 ≤ sa - s by omega)
    have := hh hlow
    omega

theorem term8_range (mode : Int) {s sa d da : Int} (h : Two s sa d da) : 0 ≤ term8 mode s sa d da ∧ term8 mode s sa d da ≤ sa * da := by
  obtain ⟨h1, h2, h3, h4, h5, h6⟩ := h
  have a1 := Int.mul_nonneg h1 (show 0 ≤ da by omega)
  have a2 : s * da ≤ sa * da := Int.mul_le_mul_of_nonneg_right h2 (by omega)
  have b1 := Int.mul_nonneg h4 (show 0 ≤ sa by omega)
  have b2 : d * sa ≤ da * sa := Int.mul_le_mul_of_nonneg_right h5 (by omega)
  have c1 := Int.mul_nonneg h1 h4
  have c2 : s * d ≤ s * da := Int.mul_le_mul_of_nonneg_left h5 h1
  have c3 : d * s ≤ d * sa := Int.mul_le_mul_of_nonneg_left h2 h4
  have e1 : da * sa = sa * da := Int.mul_comm ..
  have e2 : d * s = s * d := Int.mul_comm ..
  have e3 : (sa - s) * (da - d) = sa * da - s * da - d * sa + s * d := by
    rw [Int.sub_mul, Int.mul_sub, Int.mul_sub, Int.mul_comm sa d]; omega
  have f1 := Int.mul_nonneg (show 0 ≤ sa - s by omega) (show 0 ≤ da - d by omega)
  have e4 : 2 * s * d = 2 * (s * d) := Int.mul_assoc ..
  unfold term8
  split
  · omega
  split
  · omega
  split
  · refine hardT_range ⟨h1, h2, h3, h4, h5, h6⟩ (fun hl => ?_) (fun hl => ?_)
    · have : s * (2 * d) ≤ s * da := Int.mul_le_mul_of_nonneg_left hl h1
      have e : s * (2 * d) = 2 * (s * d) := Int.mul_left_comm ..
      omega
    · have h7 : (2 * (da - d)) * (sa - s) ≤ da * (sa - s) := Int.mul_le_mul_of_nonneg_right (by omega) (by omega)
      have h8 : da * (sa - s) ≤ da * sa := Int.mul_le_mul_of_nonneg_left (by omega) (by omega)
      omega
  split
  · omega
  split
  · omega
  split
  · omega
  split
  · rw [e4]; omega
  split
  · refine hardT_range ⟨h1, h2, h3, h4, h5, h6⟩ (fun hl => ?_) (fun hl => ?_)
    · have : (2 * s) * d ≤ sa * d := Int.mul_le_mul_of_nonneg_right hl h4
      have : sa * d ≤ sa * da := Int.mul_le_mul_of_nonneg_left h5 (by omega)
      omega
    · have h7 : (da - d) * (2 * (sa - s)) ≤ (da - d) * sa := Int.mul_le_mul_of_nonneg_left (by omega) (by omega)
      have h8 : (da - d) * sa ≤ da * sa := Int.mul_le_mul_of_nonneg_right (by omega) (by omega)
      have e : 2 * (da - d) * (sa - s) = (da - d) * (2 * (sa - s)) := by rw [Int.mul_comm 2, Int.mul_assoc]
      omega
  · omega

theorem one8_sum {mode s sa d da : Int} (h : Two s sa d da) : 0 ≤ s * (255 - da) ∧ s * (255 - da) ≤ 65025 ∧ 0 ≤ d * (255 - sa) ∧ d * (255 - sa) ≤ 65025 ∧ 0 ≤ s * (255 - da) + d * (255 - sa) + term8 mode s sa d da ∧
    s * (255 - da) + d * (255 - sa) + term8 mode s sa d da ≤ sa * (255 - da) + da * (255 - sa) + sa * da := by
  have ht := term8_range mode h
  obtain ⟨h1, h2, h3, h4, h5, h6⟩ := h
  have a1 := mulb h1 (show s ≤ 255 by omega) (show 0 ≤ 255 - da by omega) (show 255 - da ≤ 255 by omega)
  have b1 := mulb h4 (show d ≤ 255 by omega) (show 0 ≤ 255 - sa by omega) (show 255 - sa ≤ 255 by omega)
  have a2 : s * (255 - da) ≤ sa * (255 - da) := Int.mul_le_mul_of_nonneg_right h2 (by omega)
  have b2 : d * (255 - sa) ≤ da * (255 - sa) := Int.mul_le_mul_of_nonneg_right h5 (by omega)
  omega
theorem one8_le {mode s sa d da : Int} (h : Two s sa d da) : one8 mode s sa d da ≤ alp8 sa da :=
  dn8_mono (one8_sum h).2.2.2.2.1 (one8_sum h).2.2.2.2.2

/-! ### Modes that take the color as a whole -/
structure C3 where
  r : Int
  g : Int
  b : Int
def timesC (p : Pix) (n : Int) : C3 := ⟨p.r * n, p.g * n, p.b * n⟩
def C3.low (c : C3) : Int := min c.r (min c.g c.b)
def C3.high (c : C3) : Int := max c.r (max c.g c.b)
def C3.sat (c : C3) : Int := c.high - c.low
def C3.lum (c : C3) : Int := 30 * c.r + 59 * c.g + 11 * c.b
def recC (mode : Int) (s d : C3) : C3 := if mode = 11 then d else if mode = 13 then d else s
def recT (mode : Int) (s d : C3) : Int := if mode = 11 then s.sat else if mode = 12 then s.sat else d.sat
def recL (mode : Int) (s d : C3) : Int := if mode = 13 then s.lum else d.lum
def fracN (x : Int) (c : C3) (t l a : Int) : Int :=
  if c.sat = 0 then l else if l * c.sat < t * (c.lum - 100 * c.low) then l * (x - c.low)
  else if 100 * a * c.sat < 100 * c.sat * t + l * c.sat - t * (c.lum - 100 * c.low) then a * (100 * c.high - c.lum) - (100 * a - l) * (c.high - x)
  else 100 * (x - c.low) * t + l * c.sat - t * (c.lum - 100 * c.low)
def fracD (c : C3) (t l a : Int) : Int :=
  if c.sat = 0 then 100 else if l * c.sat < t * (c.lum - 100 * c.low) then c.lum - 100 * c.low
  else if 100 * a * c.sat < 100 * c.sat * t + l * c.sat - t * (c.lum - 100 * c.low) then 100 * c.high - c.lum else 100 * c.sat
def mix8 (base n d : Int) : Int := (2 * (base * d + n) + 255 * d) / (510 * d)
def baseC (x y sa da : Int) : Int := x * (255 - da) + y * (255 - sa)
def whole1 (mode : Int) (s d : Pix) (x y : Int) (f : C3 → Int) : Int :=
  mix8 (baseC x y s.a d.a) (fracN (f (recC mode (timesC s d.a) (timesC d s.a))) (recC mode (timesC s d.a) (timesC d s.a)) (recT mode (timesC s d.a) (timesC d s.a)) (recL mode (timesC s d.a) (timesC d s.a)) (s.a * d.a))
    (fracD (recC mode (timesC s d.a) (timesC d s.a)) (recT mode (timesC s d.a) (timesC d s.a)) (recL mode (timesC s d.a) (timesC d s.a)) (s.a * d.a))
def wholeP (mode : Int) (s d : Pix) : Pix := ⟨whole1 mode s d s.r d.r C3.r, whole1 mode s d s.g d.g C3.g, whole1 mode s d s.b d.b C3.b, alp8 s.a d.a⟩

structure C3.ok (c : C3) (a : Int) : Prop where
  r0 : 0 ≤ c.r
  r1 : c.r ≤ a
  g0 : 0 ≤ c.g
  g1 : c.g ≤ a
  b0 : 0 ≤ c.b
  b1 : c.b ≤ a
theorem C3.ok.sat {c : C3} {a : Int} (h : c.ok a) : 0 ≤ c.low ∧ c.low ≤ c.high ∧ c.high ≤ a ∧ 0 ≤ c.sat ∧ c.sat ≤ a ∧ 100 * c.low ≤ c.lum ∧ c.lum ≤ 100 * c.high ∧ 0 ≤ c.lum ∧ c.lum ≤ 100 * a := by
  obtain ⟨h1, h2, h3, h4, h5, h6⟩ := h
  unfold C3.sat C3.low C3.high C3.lum
  omega

theorem frac_ok {x : Int} {c : C3} {t l a : Int} (hc : c.ok a) (hx : c.low ≤ x ∧ x ≤ c.high) (ht : 0 ≤ t ∧ t ≤ a) (hl : 0 ≤ l ∧ l ≤ 100 * a) :
    0 < fracD c t l a ∧ fracD c t l a ≤ 100 * a + 100 ∧ 0 ≤ fracN x c t l a ∧ fracN x c t l a ≤ a * fracD c t l a := by
  obtain ⟨s1, s2, s3, s4, s5, s6, s7, s8, s9⟩ := hc.sat
  unfold fracD fracN
  have hsat : c.sat = c.high - c.low := rfl
  generalize c.low = lo at *
  generalize c.high = hi at *
  generalize c.sat = m at *
  generalize c.lum = u at *
  by_cases h0 : m = 0
  · rw [if_pos h0, if_pos h0]
    have : a * 100 = 100 * a := Int.mul_comm ..
    omega
  rw [if_neg h0, if_neg h0]
  have hm : 0 < m := by omega
  by_cases h1 : l * m < t * (u - 100 * lo)
  · rw [if_pos h1, if_pos h1]
    have a1 := Int.mul_nonneg hl.1 (show 0 ≤ m by omega)
    have hk : 0 < u - 100 * lo := by
      rcases Int.lt_or_le 0 (u - 100 * lo) with h | h
      · exact h
      · exfalso
        have : t * (u - 100 * lo) ≤ 0 := Int.mul_nonpos_of_nonneg_of_nonpos ht.1 h
        omega
    have a2 := Int.mul_nonneg hl.1 (show 0 ≤ x - lo by omega)
    have a3 : l * (x - lo) ≤ l * m := Int.mul_le_mul_of_nonneg_left (by omega) hl.1
    have a4 : t * (u - 100 * lo) ≤ a * (u - 100 * lo) := Int.mul_le_mul_of_nonneg_right ht.2 (by omega)
    omega
  rw [if_neg h1, if_neg h1]
  have h1 : 0 ≤ l * m - t * (u - 100 * lo) := by omega
  by_cases h2 : 100 * a * m < 100 * m * t + l * m - t * (u - 100 * lo)
  · rw [if_pos h2, if_pos h2]
    -- t * bright > m * (100 a - l)
    have e1 : t * (100 * hi - u) = 100 * m * t - t * (u - 100 * lo) := by
      have : 100 * hi - u = 100 * m - (u - 100 * lo) := by omega
      rw [this, Int.mul_sub, Int.mul_comm t]
    have e2 : (100 * a - l) * m = 100 * a * m - l * m := Int.sub_mul ..
    have h3 : (100 * a - l) * m < t * (100 * hi - u) := by omega
    have a1 := Int.mul_nonneg (show 0 ≤ 100 * a - l by omega) (show 0 ≤ m by omega)
    have hb : 0 < 100 * hi - u := by
      rcases Int.lt_or_le 0 (100 * hi - u) with h | h
      · exact h
      · exfalso
        have : t * (100 * hi - u) ≤ 0 := Int.mul_nonpos_of_nonneg_of_nonpos ht.1 h
        omega
    have a2 := Int.mul_nonneg (show 0 ≤ 100 * a - l by omega) (show 0 ≤ hi - x by omega)
    have a3 : (100 * a - l) * (hi - x) ≤ (100 * a - l) * m := Int.mul_le_mul_of_nonneg_left (by omega) (by omega)
    have a4 : t * (100 * hi - u) ≤ a * (100 * hi - u) := Int.mul_le_mul_of_nonneg_right ht.2 (by omega)
    omega
  · rw [if_neg h2, if_neg h2]
    have a1 : 0 ≤ 100 * (x - lo) * t := Int.mul_nonneg (by omega) ht.1
    have a2 : 100 * (x - lo) * t ≤ 100 * m * t := Int.mul_le_mul_of_nonneg_right (by omega) ht.1
    have e : a * (100 * m) = 100 * a * m := by rw [Int.mul_left_comm, Int.mul_assoc]
    omega

theorem timesC_ok {p : Pix} {n : Int} (h : pxOK p) (h8 : P8 p) (hn : 0 ≤ n) : (timesC p n).ok (p.a * n) :=
  ⟨Int.mul_nonneg h8.1.1 hn, Int.mul_le_mul_of_nonneg_right h.1 hn, Int.mul_nonneg h8.2.1.1 hn, Int.mul_le_mul_of_nonneg_right h.2.1 hn, Int.mul_nonneg h8.2.2.1.1 hn, Int.mul_le_mul_of_nonneg_right h.2.2 hn⟩
/-- The recipe of two clamped pixels. -/
theorem rec_ok (mode : Int) {s d : Pix} (hs : pxOK s) (h8 : P8 s) (hd : pxOK d) (k8 : P8 d) :
    (recC mode (timesC s d.a) (timesC d s.a)).ok (s.a * d.a) ∧ (0 ≤ recT mode (timesC s d.a) (timesC d s.a) ∧ recT mode (timesC s d.a) (timesC d s.a) ≤ s.a * d.a) ∧
    (0 ≤ recL mode (timesC s d.a) (timesC d s.a) ∧ recL mode (timesC s d.a) (timesC d s.a) ≤ 100 * (s.a * d.a)) := by
  have o1 := timesC_ok hs h8 k8.2.2.2.1
  have o2 := timesC_ok hd k8 h8.2.2.2.1
  rw [Int.mul_comm d.a s.a] at o2
  obtain ⟨_, _, _, a4, a5, _, _, a8, a9⟩ := o1.sat
  obtain ⟨_, _, _, b4, b5, _, _, b8, b9⟩ := o2.sat
  refine ⟨?_, ?_, ?_⟩
  · unfold recC; split
    · exact o2
    split
    · exact o2
    · exact o1
  · unfold recT; split
    · exact ⟨a4, a5⟩
    split
    · exact ⟨a4, a5⟩
    · exact ⟨b4, b5⟩
  · unfold recL; split
    · exact ⟨a8, a9⟩
    · exact ⟨b8, b9⟩

theorem mix8_le {base B n d a : Int} (hd : 0 < d) (hn : 0 ≤ n) (hna : n ≤ a * d) (hb : 0 ≤ base) (hB : base ≤ B) : 0 ≤ mix8 base n d ∧ mix8 base n d ≤ (2 * (B + a) + 255) / 510 := by
  have e0 := Int.mul_nonneg hb (Int.le_of_lt hd)
  have e1 : base * d ≤ B * d := Int.mul_le_mul_of_nonneg_right hB (Int.le_of_lt hd)
  unfold mix8
  refine ⟨Int.ediv_nonneg (by omega) (by omega), ?_⟩
  have e2 : (2 * (B + a) + 255) * d = 2 * (B * d + a * d) + 255 * d := by rw [Int.add_mul, Int.mul_assoc, Int.add_mul]
  have e3 : (2 * (B + a) + 255) / 510 = ((2 * (B + a) + 255) * d) / (510 * d) := (Int.mul_ediv_mul_of_pos_left _ _ hd).symm
  rw [e3, e2]
  exact Int.ediv_le_ediv (by omega) (by omega)

theorem C3.at_r (c : C3) : c.low ≤ c.r ∧ c.r ≤ c.high := by unfold C3.low C3.high; omega
theorem C3.at_g (c : C3) : c.low ≤ c.g ∧ c.g ≤ c.high := by unfold C3.low C3.high; omega
theorem C3.at_b (c : C3) : c.low ≤ c.b ∧ c.b ≤ c.high := by unfold C3.low C3.high; omega

theorem whole1_le {mode : Int} {s d : Pix} (hs : pxOK s) (h8 : P8 s) (hd : pxOK d) (k8 : P8 d) {x y : Int} {f : C3 → Int} (hx : 0 ≤ x ∧ x ≤ s.a) (hy : 0 ≤ y ∧ y ≤ d.a) (hf : ∀ c : C3, c.low ≤ f c ∧ f c ≤ c.high) :
    0 ≤ whole1 mode s d x y f ∧ whole1 mode s d x y f ≤ alp8 s.a d.a := by
  obtain ⟨o1, o2, o3⟩ := rec_ok mode hs h8 hd k8
  obtain ⟨f1, f2, f3, f4⟩ := frac_ok o1 (hf _) o2 o3
  have r1 := h8.2.2.2
  have r2 := k8.2.2.2
  unfold R8 at r1 r2
  have a1 : x * (255 - d.a) ≤ s.a * (255 - d.a) := Int.mul_le_mul_of_nonneg_right hx.2 (by omega)
  have a2 : y * (255 - s.a) ≤ d.a * (255 - s.a) := Int.mul_le_mul_of_nonneg_right hy.2 (by omega)
  have a3 := Int.mul_nonneg hx.1 (show 0 ≤ 255 - d.a by omega)
  have a4 := Int.mul_nonneg hy.1 (show 0 ≤ 255 - s.a by omega)
  have a5 := Int.mul_nonneg r1.1 r2.1
  have a6 := mulb r1.1 r1.2 (show 0 ≤ 255 - d.a by omega) (show 255 - d.a ≤ 255 by omega)
  have hm := mix8_le (B := s.a * (255 - d.a) + d.a * (255 - s.a)) f1 f3 f4 (show 0 ≤ baseC x y s.a d.a by unfold baseC; omega) (by unfold baseC; omega)
  refine ⟨hm.1, ?_⟩
  unfold alp8
  rw [dn8_pos (by omega)]
  have : whole1 mode s d x y f ≤ (2 * (s.a * (255 - d.a) + d.a * (255 - s.a) + s.a * d.a) + 255) / 510 := hm.2
  -- the sum is at most 255 * 255
  have b1 : s.a * (255 - d.a) + d.a * (255 - s.a) + s.a * d.a ≤ 65025 := by
    have e1 : s.a * (255 - d.a) = 255 * s.a - s.a * d.a := by rw [Int.mul_sub, Int.mul_comm]
    have e2 : d.a * (255 - s.a) = 255 * d.a - s.a * d.a := by rw [Int.mul_sub, Int.mul_comm, Int.mul_comm d.a s.a]
    have e3 : (255 - s.a) * (255 - d.a) = 65025 - 255 * s.a - 255 * d.a + s.a * d.a := by
      rw [Int.sub_mul, Int.mul_sub, Int.mul_sub]; omega
    have e4 := Int.mul_nonneg (show 0 ≤ 255 - s.a by omega) (show 0 ≤ 255 - d.a by omega)
    omega
  omega

/-! ### Blending -/
def modeOK (mode : Int) : Prop := 1 ≤ mode ∧ mode ≤ 13
instance instB01 (m : Int) : Decidable (modeOK m) := inferInstanceAs (Decidable (_ ∧ _))
def sepP (mode : Int) (s d : Pix) : Pix := ⟨one8 mode s.r s.a d.r d.a, one8 mode s.g s.a d.g d.a, one8 mode s.b s.a d.b d.a, alp8 s.a d.a⟩
def blendP (mode : Int) (s d : Pix) : Pix :=
  if ¬ modeOK mode then d else if 9 < mode then wholeP mode (clampP s) (clampP d) else sepP mode (clampP s) (clampP d)
def coverP (mode : Int) (s d : Pix) (k : Int) : Pix := blendP mode (scaleP s k) d

theorem two_r {s d : Pix} (hs : pxOK s) (h8 : P8 s) (hd : pxOK d) (k8 : P8 d) : Two s.r s.a d.r d.a := ⟨h8.1.1, hs.1, h8.2.2.2.2, k8.1.1, hd.1, k8.2.2.2.2⟩
theorem two_g {s d : Pix} (hs : pxOK s) (h8 : P8 s) (hd : pxOK d) (k8 : P8 d) : Two s.g s.a d.g d.a := ⟨h8.2.1.1, hs.2.1, h8.2.2.2.2, k8.2.1.1, hd.2.1, k8.2.2.2.2⟩
theorem two_b {s d : Pix} (hs : pxOK s) (h8 : P8 s) (hd : pxOK d) (k8 : P8 d) : Two s.b s.a d.b d.a := ⟨h8.2.2.1.1, hs.2.2, h8.2.2.2.2, k8.2.2.1.1, hd.2.2, k8.2.2.2.2⟩
theorem blendP_ok {mode : Int} {s d : Pix} (hm : modeOK mode) (h8 : P8 s) (k8 : P8 d) : pxOK (blendP mode s d) ∧ P8 (blendP mode s d) := by
  have hs := clampP_ok s
  have hd := clampP_ok d
  have h8 := clampP_8 h8
  have k8 := clampP_8 k8
  unfold blendP
  rw [if_neg (fun h => h hm)]
  have al := dn8_8 ((clampP s).a * (255 - (clampP d).a) + (clampP d).a * (255 - (clampP s).a) + (clampP s).a * (clampP d).a)
  split
  · have w1 := whole1_le (mode := mode) hs h8 hd k8 (x := (clampP s).r) (y := (clampP d).r) ⟨h8.1.1, hs.1⟩ ⟨k8.1.1, hd.1⟩ C3.at_r
    have w2 := whole1_le (mode := mode) hs h8 hd k8 (x := (clampP s).g) (y := (clampP d).g) ⟨h8.2.1.1, hs.2.1⟩ ⟨k8.2.1.1, hd.2.1⟩ C3.at_g
    have w3 := whole1_le (mode := mode) hs h8 hd k8 (x := (clampP s).b) (y := (clampP d).b) ⟨h8.2.2.1.1, hs.2.2⟩ ⟨k8.2.2.1.1, hd.2.2⟩ C3.at_b
    exact ⟨⟨w1.2, w2.2, w3.2⟩, ⟨w1.1, Int.le_trans w1.2 al.2⟩, ⟨w2.1, Int.le_trans w2.2 al.2⟩, ⟨w3.1, Int.le_trans w3.2 al.2⟩, al⟩
  · exact ⟨⟨one8_le (two_r hs h8 hd k8), one8_le (two_g hs h8 hd k8), one8_le (two_b hs h8 hd k8)⟩, dn8_8 _, dn8_8 _, dn8_8 _, al⟩
theorem coverP_ok {mode : Int} {s d : Pix} {k : Int} (hm : modeOK mode) (h8 : P8 s) (k8 : P8 d) (hk : R8 k) : pxOK (coverP mode s d k) ∧ P8 (coverP mode s d k) := blendP_ok hm (scaleP_8 h8 hk) k8

end Go.Gs
/- Rectangles of pixels and rows of their pixels, plain. -/
namespace Go.Gs

theorem zero_8 : P8 zeroP := ⟨⟨by decide, by decide⟩, ⟨by decide, by decide⟩, ⟨by decide, by decide⟩, ⟨by decide, by decide⟩⟩
structure Rc where
  x0 : Int
  y0 : Int
  x1 : Int
  y1 : Int
def rcE (r : Rc) : List SV := [i64 r.x0, i64 r.y0, i64 r.x1, i64 r.y1]
def zeroR : Rc := ⟨0, 0, 0, 0⟩
theorem rc_eq {p q : Rc} : (p.x0 = q.x0 ∧ p.y0 = q.y0 ∧ p.x1 = q.x1 ∧ p.y1 = q.y1 ∧ True) ↔ p = q := by
  rcases p with ⟨a, b, c, d⟩; rcases q with ⟨a', b', c', d'⟩; simp
instance instG01 : DecidableEq Rc := fun _ _ => decidable_of_iff _ rc_eq

def inRc (n : Int) : Prop := -4096 ≤ n ∧ n ≤ 4096
instance instG02 (n : Int) : Decidable (inRc n) := inferInstanceAs (Decidable (_ ∧ _))
def Rc.ok (r : Rc) : Prop := inRc r.x0 ∧ inRc r.y0 ∧ inRc r.x1 ∧ inRc r.y1
instance instG03 (r : Rc) : Decidable r.ok := inferInstanceAs (Decidable (_ ∧ _))
def Rc.mt (r : Rc) : Prop := ¬ r.ok ∨ r.x1 ≤ r.x0 ∨ r.y1 ≤ r.y0
instance instG04 (r : Rc) : Decidable r.mt := inferInstanceAs (Decidable (_ ∨ _))
def Rc.canon (r : Rc) : Rc := if r.mt then zeroR else r
def Rc.w (r : Rc) : Int := r.x1 - r.x0
def Rc.h (r : Rc) : Int := r.y1 - r.y0
def Rc.area (r : Rc) : Int := r.canon.w * r.canon.h
def Rc.has (r : Rc) (x y : Int) : Prop := ¬ r.mt ∧ r.x0 ≤ x ∧ x < r.x1 ∧ r.y0 ≤ y ∧ y < r.y1
instance instG05 (r : Rc) (x y : Int) : Decidable (r.has x y) := inferInstanceAs (Decidable (_ ∧ _))
def Rc.idx (r : Rc) (x y : Int) : Int := if r.has x y then (y - r.y0) * r.w + x - r.x0 else -1
def Rc.meet (a b : Rc) : Rc := if a.mt ∨ b.mt then zeroR else Rc.canon ⟨max a.x0 b.x0, max a.y0 b.y0, min a.x1 b.x1, min a.y1 b.y1⟩

theorem zeroR_mt : zeroR.mt := by decide
theorem Rc.canon_canon (r : Rc) : r.canon.canon = r.canon := by
  unfold Rc.canon
  by_cases h : r.mt
  · rw [if_pos h]; decide
  · rw [if_neg h, if_neg h]
/-- A rectangle that is its own canon. -/
theorem Rc.canon_self {r : Rc} (h : r.canon = r) : (r = zeroR) ∨ (¬ r.mt) := by
  unfold Rc.canon at h
  by_cases k : r.mt
  · rw [if_pos k] at h; exact .inl h.symm
  · exact .inr k
theorem Rc.notmt {r : Rc} (h : ¬ r.mt) : r.ok ∧ r.x0 < r.x1 ∧ r.y0 < r.y1 := by
  unfold Rc.mt at h
  refine ⟨Decidable.not_not.1 fun k => h (.inl k), ?_, ?_⟩
  · rcases Int.lt_or_le r.x0 r.x1 with k | k
    · exact k
    · exact absurd (.inr (.inl k)) h
  · rcases Int.lt_or_le r.y0 r.y1 with k | k
    · exact k
    · exact absurd (.inr (.inr k)) h
/-- The sides of a rectangle that is its own canon. -/
theorem Rc.sides {r : Rc} (h : r.canon = r) : inRc r.x0 ∧ inRc r.y0 ∧ inRc r.x1 ∧ inRc r.y1 ∧ 0 ≤ r.w ∧ r.w ≤ 8192 ∧ 0 ≤ r.h ∧ r.h ≤ 8192 ∧ (r.w = 0 ↔ r.h = 0) := by
  unfold Rc.w Rc.h
  rcases Rc.canon_self h with rfl | k
  · decide
  · obtain ⟨⟨⟨a, b⟩, ⟨c, d⟩, ⟨e, f⟩, g, i⟩, j, k⟩ := Rc.notmt k
    unfold inRc
    omega
theorem Rc.canon_ok (r : Rc) : r.canon.canon = r.canon := r.canon_canon
theorem Rc.area_canon {r : Rc} (h : r.canon = r) : r.area = r.w * r.h := by unfold Rc.area; rw [h]
theorem Rc.area_range (r : Rc) : 0 ≤ r.area ∧ r.area ≤ 67108864 := by
  obtain ⟨_, _, _, _, h1, h2, h3, h4, _⟩ := Rc.sides r.canon_canon
  unfold Rc.area
  have := mulb h1 h2 h3 h4
  omega

/-- The pixels of a rectangle in their order, row by row: the first 'n'. -/
def gridN {α : Type} (r : Rc) (g : Int → Int → α) (n : Nat) : List α := (List.range n).map fun (i : Nat) => g (r.x0 + (i : Int) % r.w) (r.y0 + (i : Int) / r.w)
def grid {α : Type} (r : Rc) (g : Int → Int → α) : List α := gridN r g r.area.toNat
theorem gridN_len {α : Type} (r : Rc) (g : Int → Int → α) (n : Nat) : (gridN r g n).length = n := by simp [gridN]
theorem grid_len {α : Type} (r : Rc) (g : Int → Int → α) : (grid r g).length = r.area.toNat := gridN_len _ _ _
theorem gridN_zero {α : Type} (r : Rc) (g : Int → Int → α) : gridN r g 0 = [] := rfl
theorem gridN_succ {α : Type} (r : Rc) (g : Int → Int → α) (n : Nat) : gridN r g (n + 1) = gridN r g n ++ [g (r.x0 + (n : Int) % r.w) (r.y0 + (n : Int) / r.w)] := by
  simp [gridN, List.range_succ]
theorem gridN_at {α : Type} {r : Rc} {g : Int → Int → α} {n i : Nat} (h : i < n) : (gridN r g n)[i]? = some (g (r.x0 + (i : Int) % r.w) (r.y0 + (i : Int) / r.w)) := by
  simp [gridN, h]
/-- The place of column 'c' in row 'k'. -/
theorem rowcol {w k c : Int} (hc : 0 ≤ c) (hw : c < w) : (k * w + c) % w = c ∧ (k * w + c) / w = k := by
  have h1 : (k * w + c) % w = c := by
    rw [Int.add_comm, Int.add_mul_emod_self_right]
    exact Int.emod_eq_of_lt hc hw
  have h2 : (k * w + c) / w = k := by
    rw [Int.add_comm, Int.add_mul_ediv_right _ _ (by omega), Int.ediv_eq_zero_of_lt hc hw, Int.zero_add]
  exact ⟨h1, h2⟩
theorem idx_lt {w h k c : Int} (hc : 0 ≤ c) (hw : c < w) (hk : 0 ≤ k) (hh : k < h) : 0 ≤ k * w + c ∧ k * w + c < w * h := by
  have h1 := Int.mul_nonneg hk (show 0 ≤ w by omega)
  have h2 : (k + 1) * w ≤ h * w := Int.mul_le_mul_of_nonneg_right (by omega) (by omega)
  have h3 : (k + 1) * w = k * w + w := by rw [Int.add_mul, Int.one_mul]
  have h4 : h * w = w * h := Int.mul_comm ..
  omega
/-- The place of a pixel of a rectangle. -/
theorem Rc.idx_has {r : Rc} {x y : Int} (h : r.has x y) : r.idx x y = (y - r.y0) * r.w + (x - r.x0) ∧ 0 ≤ r.idx x y ∧ r.idx x y < r.area ∧ r.idx x y % r.w = x - r.x0 ∧ r.idx x y / r.w = y - r.y0 := by
  obtain ⟨h0, h1, h2, h3, h4⟩ := h
  have e : r.idx x y = (y - r.y0) * r.w + (x - r.x0) := by unfold Rc.idx; rw [if_pos ⟨h0, h1, h2, h3, h4⟩]; omega
  have hw : x - r.x0 < r.w := by unfold Rc.w; omega
  have hh : y - r.y0 < r.h := by unfold Rc.h; omega
  have h5 := rowcol (k := y - r.y0) (show 0 ≤ x - r.x0 by omega) hw
  have h6 := idx_lt (show 0 ≤ x - r.x0 by omega) hw (show 0 ≤ y - r.y0 by omega) hh
  have ha : r.area = r.w * r.h := Rc.area_canon (by unfold Rc.canon; rw [if_neg h0])
  rw [e, ha]
  exact ⟨rfl, h6.1, h6.2, h5.1, h5.2⟩
theorem grid_at {α : Type} {r : Rc} {g : Int → Int → α} {x y : Int} (h : r.has x y) : (grid r g)[(r.idx x y).toNat]? = some (g x y) := by
  obtain ⟨_, h1, h2, h3, h4⟩ := Rc.idx_has h
  unfold grid
  rw [gridN_at (by omega), show (((r.idx x y).toNat : Nat) : Int) = r.idx x y by omega, h3, h4]
  congr 2 <;> omega
/-- Each place is that of a pixel. -/
theorem Rc.place {r : Rc} {i : Int} (h0 : 0 ≤ i) (h1 : i < r.area) : r.canon.has (r.canon.x0 + i % r.canon.w) (r.canon.y0 + i / r.canon.w) ∧ r.canon.idx (r.canon.x0 + i % r.canon.w) (r.canon.y0 + i / r.canon.w) = i := by
  have hs := Rc.sides r.canon_canon
  have hself := Rc.canon_self r.canon_canon
  unfold Rc.area at h1
  generalize r.canon = c at *
  have hn : ¬ c.mt := by
    rcases hself with rfl | k
    · simp [zeroR, Rc.w, Rc.h] at h1; omega
    · exact k
  obtain ⟨_, _, _, _, h2, _, h3, _, _⟩ := hs
  have hw : 0 < c.w := by
    rcases Int.lt_or_le 0 c.w with k | k
    · exact k
    · have : c.w = 0 := by omega
      rw [this, Int.zero_mul] at h1; omega
  have m1 := Int.emod_nonneg i (show c.w ≠ 0 by omega)
  have m2 := Int.emod_lt_of_pos i hw
  have d1 := Int.ediv_nonneg h0 (show 0 ≤ c.w by omega)
  have d2 : i / c.w < c.h := Int.ediv_lt_of_lt_mul hw (by rw [Int.mul_comm]; exact h1)
  have hh : c.has (c.x0 + i % c.w) (c.y0 + i / c.w) := ⟨hn, by omega, by unfold Rc.w at m2; unfold Rc.w; omega, by omega, by unfold Rc.h at d2; omega⟩
  refine ⟨hh, ?_⟩
  rw [(Rc.idx_has hh).1]
  have := Int.mul_ediv_add_emod i c.w
  have e : (c.y0 + i / c.w - c.y0) * c.w = c.w * (i / c.w) := by rw [show c.y0 + i / c.w - c.y0 = i / c.w by omega, Int.mul_comm]
  rw [e]; omega
theorem grid_congr {α : Type} {r : Rc} {f g : Int → Int → α} (hr : r.canon = r) (h : ∀ x y, r.has x y → f x y = g x y) : grid r f = grid r g := by
  unfold grid gridN
  refine List.map_congr_left fun i hi => ?_
  have hi := List.mem_range.1 hi
  have ha := r.area_range
  have := (Rc.place (r := r) (i := i) (by omega) (by omega)).1
  rw [hr] at this
  exact h _ _ this
theorem grid_mem {α : Type} {r : Rc} {f : Int → Int → α} (hr : r.canon = r) {p : α} (h : p ∈ grid r f) : ∃ x y, r.has x y ∧ p = f x y := by
  unfold grid gridN at h
  obtain ⟨i, hi, rfl⟩ := List.mem_map.1 h
  have hi := List.mem_range.1 hi
  have ha := r.area_range
  have := (Rc.place (r := r) (i := i) (by omega) (by omega)).1
  rw [hr] at this
  exact ⟨_, _, this, rfl⟩

/-! ### Bitmaps and masks -/
structure Bm where
  b : Rc
  px : List Pix
def bmE (s : Bm) : List SV := i64 s.b.x0 :: i64 s.b.y0 :: i64 s.b.x1 :: i64 s.b.y1 :: [.sl pixE s.px]
def zeroB : Bm := ⟨zeroR, []⟩
structure Mk where
  b : Rc
  cv : List Int
def mkE (s : Mk) : List SV := i64 s.b.x0 :: i64 s.b.y0 :: i64 s.b.x1 :: i64 s.b.y1 :: [.sl u8E s.cv]
def Bm.ok (s : Bm) : Prop := s.b.canon = s.b ∧ s.b.area ≤ 65536 ∧ (s.px.length : Int) = s.b.area ∧ ∀ p ∈ s.px, pxOK p
def Mk.ok (m : Mk) : Prop := m.b.canon = m.b ∧ m.b.area ≤ 65536 ∧ (m.cv.length : Int) = m.b.area
instance instG06 (m : Mk) : Decidable m.ok := inferInstanceAs (Decidable (_ ∧ _))
instance instG07 (s : Bm) : Decidable s.ok := inferInstanceAs (Decidable (_ ∧ _))
/-- A pixel of a bitmap that may be; zero beside it. -/
def Bm.at_ (s : Bm) (x y : Int) : Pix := if s.b.has x y then (s.px[(s.b.idx x y).toNat]?).getD zeroP else zeroP
def Mk.at_ (m : Mk) (x y : Int) : Int := if m.b.has x y then (m.cv[(m.b.idx x y).toNat]?).getD 0 else 0
theorem Bm.get {s : Bm} (h : s.ok) {x y : Int} (hh : s.b.has x y) : s.px[(s.b.idx x y).toNat]? = some (s.at_ x y) := by
  obtain ⟨_, h1, h2, _, _⟩ := Rc.idx_has hh
  have hl : (s.b.idx x y).toNat < s.px.length := by have := h.2.2.1; omega
  unfold Bm.at_
  rw [if_pos hh, List.getElem?_eq_getElem hl]; rfl
theorem Mk.get {s : Mk} (h : s.ok) {x y : Int} (hh : s.b.has x y) : s.cv[(s.b.idx x y).toNat]? = some (s.at_ x y) := by
  obtain ⟨_, h1, h2, _, _⟩ := Rc.idx_has hh
  have hl : (s.b.idx x y).toNat < s.cv.length := by have := h.2.2; omega
  unfold Mk.at_
  rw [if_pos hh, List.getElem?_eq_getElem hl]; rfl
/-- A bitmap that may be is the grid of its pixels. -/
theorem Bm.grid {s : Bm} (h : s.ok) : s.px = Go.Gs.grid s.b s.at_ := by
  obtain ⟨h1, h2, h3, h4⟩ := h
  have ha := s.b.area_range
  refine List.ext_getElem? fun i => ?_
  by_cases hi : i < s.px.length
  · have hp := Rc.place (r := s.b) (i := i) (by omega) (by omega)
    rw [h1] at hp
    unfold Go.Gs.grid
    rw [gridN_at (by omega)]
    have := Bm.get ⟨h1, h2, h3, h4⟩ hp.1
    rw [hp.2] at this
    exact this
  · rw [List.getElem?_eq_none (by omega), List.getElem?_eq_none (by rw [grid_len]; omega)]
theorem Bm.at_ok {s : Bm} (h : s.ok) (x y : Int) : pxOK (s.at_ x y) := by
  by_cases hh : s.b.has x y
  · exact h.2.2.2 _ (List.mem_of_getElem? (Bm.get h hh))
  · unfold Bm.at_; rw [if_neg hh]; decide
def B8 (s : Bm) : Prop := ∀ p ∈ s.px, P8 p
theorem Bm.at_8 {s : Bm} (h : B8 s) (x y : Int) : P8 (s.at_ x y) := by
  unfold Bm.at_
  split
  · cases hq : s.px[(s.b.idx x y).toNat]? with
    | none => exact zero_8
    | some p => exact h p (List.mem_of_getElem? hq)
  · exact zero_8
def M8 (m : Mk) : Prop := (∀ c ∈ m.cv, R8 c) ∧ (R64 m.b.x0 ∧ R64 m.b.y0 ∧ R64 m.b.x1 ∧ R64 m.b.y1)
theorem Mk.at_8 {m : Mk} (h : ∀ c ∈ m.cv, R8 c) (x y : Int) : R8 (m.at_ x y) := by
  unfold Mk.at_
  split
  · cases hq : m.cv[(m.b.idx x y).toNat]? with
    | none => show R8 0; decide
    | some p => exact h p (List.mem_of_getElem? hq)
  · decide

end Go.Gs
/- Rectangles of pixels, both texts. -/
namespace Go.Gs
open Go.Proofs

theorem LE_rc {p q : Rc} (h : p = q) : LE (.agg (rcE p)) (.agg (rcE q)) := by subst h; exact .refl
theorem Rc.canon_pos {r : Rc} (h : r.mt) : r.canon = zeroR := if_pos h
theorem Rc.canon_neg {r : Rc} (h : ¬ r.mt) : r.canon = r := if_neg h
theorem Rc.canon_R (r : Rc) : inRc r.canon.x0 ∧ inRc r.canon.y0 ∧ inRc r.canon.x1 ∧ inRc r.canon.y1 ∧ 0 ≤ r.canon.x1 - r.canon.x0 ∧ r.canon.x1 - r.canon.x0 ≤ 8192 ∧ 0 ≤ r.canon.y1 - r.canon.y0 ∧ r.canon.y1 - r.canon.y0 ≤ 8192 := by
  obtain ⟨a, b, c, d, e, f, g, h, _⟩ := Rc.sides r.canon_canon
  exact ⟨a, b, c, d, e, f, g, h⟩
theorem Rc.meet_canon (a b : Rc) : Rc.canon ⟨max a.canon.x0 b.canon.x0, max a.canon.y0 b.canon.y0, min a.canon.x1 b.canon.x1, min a.canon.y1 b.canon.y1⟩ = a.meet b := by
  unfold Rc.meet
  have e0 : zeroR.x0 = 0 ∧ zeroR.y0 = 0 ∧ zeroR.x1 = 0 ∧ zeroR.y1 = 0 := ⟨rfl, rfl, rfl, rfl⟩
  by_cases ha : a.mt
  · rw [if_pos (.inl ha), Rc.canon_pos ha, Rc.canon_pos]
    right; left; dsimp only; rw [e0.1, e0.2.2.1]; omega
  by_cases hb : b.mt
  · rw [if_pos (.inr hb), Rc.canon_pos hb, Rc.canon_pos]
    right; left; dsimp only; rw [e0.1, e0.2.2.1]; omega
  rw [if_neg (fun h => h.elim ha hb), Rc.canon_neg ha, Rc.canon_neg hb]
theorem Rc.has_canon (r : Rc) (x y : Int) : r.has x y ↔ (r.canon.x0 ≤ x ∧ x < r.canon.x1 ∧ r.canon.y0 ≤ y ∧ y < r.canon.y1) := by
  unfold Rc.has
  by_cases h : r.mt
  · rw [Rc.canon_pos h]
    simp only [h, not_true_eq_false, false_and, false_iff]
    intro k
    have : zeroR.x0 = 0 ∧ zeroR.x1 = 0 := ⟨rfl, rfl⟩
    omega
  · rw [Rc.canon_neg h]; simp [h]


theorem p_may (n : Int) : CallsG Tryz.prog 102 [i64 n] [] (pr (inRc n)) [] := by
  refine calls_to tok mix Tryz.func102 rfl rfl rfl ?_
  refine Br.mk (fun h1 => ?_) (fun h1 => LE_false (fun h => h1 h.1))
  exact LE_pr ⟨fun h => ⟨h1, h⟩, fun h => h.2⟩
theorem p_valid (r : Rc) : CallsG Tryz.prog 70 [.agg (rcE r)] [] (pr r.ok) [] := by
  refine calls_to tok mix Tryz.func70 rfl rfl rfl ?_
  refine CallV.to _ (p_may r.x0) rfl ?_
  refine Br.mk (fun h1 => ?_) (fun h1 => LE_false (fun h => h1 h.1))
  refine CallV.to _ (p_may r.y0) rfl ?_
  refine Br.mk (fun h2 => ?_) (fun h2 => LE_false (fun h => h2 h.2.1))
  refine CallV.to _ (p_may r.x1) rfl ?_
  refine Br.mk (fun h3 => ?_) (fun h3 => LE_false (fun h => h3 h.2.2.1))
  refine CallV.to _ (p_may r.y1) rfl ?_
  exact LE_pr ⟨fun h => ⟨h1, h2, h3, h⟩, fun h => h.2.2.2⟩
theorem p_empty (r : Rc) : CallsG Tryz.prog 105 [.agg (rcE r)] [] (pr r.mt) [] := by
  refine calls_to tok mix Tryz.func105 rfl rfl rfl ?_
  refine CallV.to _ (p_valid r) rfl ?_
  refine Br.mk (fun h1 => LE_true (.inl h1)) (fun h1 => ?_)
  refine Br.mk (fun h2 => LE_true (.inr (.inl h2))) (fun h2 => ?_)
  exact LE_pr ⟨fun h => .inr (.inr h), fun h => by rcases h with h | h | h; exact absurd h h1; exact absurd h h2; exact h⟩
theorem p_canon (r : Rc) : CallsG Tryz.prog 76 [.agg (rcE r)] [] (.agg (rcE r.canon)) [] := by
  refine calls_to tok mix Tryz.func76 rfl rfl rfl ?_
  refine CallV.to _ (p_empty r) rfl ?_
  refine Br.mk (fun h1 => LE_rc (Rc.canon_pos h1).symm) (fun h1 => LE_rc (Rc.canon_neg h1).symm)
theorem p_area (r : Rc) : CallsG Tryz.prog 75 [.agg (rcE r)] [] (i64 r.area) [] := by
  obtain ⟨a, b, c, d, e, f, g, h⟩ := r.canon_R
  unfold inRc at a b c d
  have hm := mulb e f g h
  refine calls_to tok mix Tryz.func75 rfl rfl rfl ?_
  refine CallV.to _ (p_canon r) rfl ?_
  refine Ar.fit (by omega) ?_
  refine Ar.fit (by omega) ?_
  refine Ar.fit (by omega) ?_
  exact .refl

theorem r_may (n : Int) : CallsG Tryz.prog 96 [i64 n] [] (pr (inRc n)) [] := by
  refine calls_to tok mix Tryz.func96 rfl rfl rfl ?_
  refine Br.mk (fun h1 => ?_) (fun h1 => LE_false (fun h => h1 h.1))
  exact LE_pr ⟨fun h => ⟨h1, h⟩, fun h => h.2⟩
theorem r_valid (r : Rc) : CallsG Tryz.prog 53 [.agg (rcE r)] [] (pr r.ok) [] := by
  refine calls_to tok mix Tryz.func53 rfl rfl rfl ?_
  refine CallV.to _ (r_may r.x0) rfl ?_
  refine Br.mk (fun h1 => ?_) (fun h1 => LE_false (fun h => h1 h.1))
  refine CallV.to _ (r_may r.y0) rfl ?_
  refine Br.mk (fun h2 => ?_) (fun h2 => LE_false (fun h => h2 h.2.1))
  refine CallV.to _ (r_may r.x1) rfl ?_
  refine Br.mk (fun h3 => ?_) (fun h3 => LE_false (fun h => h3 h.2.2.1))
  refine CallV.to _ (r_may r.y1) rfl ?_
  exact LE_pr ⟨fun h => ⟨h1, h2, h3, h⟩, fun h => h.2.2.2⟩
theorem r_empty (r : Rc) : CallsG Tryz.prog 93 [.agg (rcE r)] [] (pr r.mt) [] := by
  refine calls_to tok mix Tryz.func93 rfl rfl rfl ?_
  refine CallV.to _ (r_valid r) rfl ?_
  refine Br.mk (fun h1 => LE_true (.inl h1)) (fun h1 => ?_)
  refine Br.mk (fun h2 => LE_true (.inr (.inl h2))) (fun h2 => ?_)
  exact LE_pr ⟨fun h => .inr (.inr h), fun h => by rcases h with h | h | h; exact absurd h h1; exact absurd h h2; exact h⟩
theorem r_canon (r : Rc) : CallsG Tryz.prog 51 [.agg (rcE r)] [] (.agg (rcE r.canon)) [] := by
  refine calls_to tok mix Tryz.func51 rfl rfl rfl ?_
  refine CallV.to _ (r_empty r) rfl ?_
  refine Br.mk (fun h1 => LE_rc (Rc.canon_pos h1).symm) (fun h1 => LE_rc (Rc.canon_neg h1).symm)
theorem r_area (r : Rc) : CallsG Tryz.prog 20 [.agg (rcE r)] [] (i64 r.area) [] := by
  obtain ⟨a, b, c, d, e, f, g, h⟩ := r.canon_R
  unfold inRc at a b c d
  have hm := mulb e f g h
  refine calls_to tok mix Tryz.func20 rfl rfl rfl ?_
  refine CallV.to _ (r_canon r) rfl ?_
  refine Ar.fit (by omega) ?_
  refine Ar.fit (by omega) ?_
  refine Ar.fit (by omega) ?_
  exact .refl

theorem p_has (r : Rc) (x y : Int) : CallsG Tryz.prog 157 [.agg (rcE r), i64 x, i64 y] [] (pr (r.has x y)) [] := by
  refine calls_to tok mix Tryz.func157 rfl rfl rfl ?_
  refine CallV.to _ (p_empty r) rfl ?_
  refine Br.mk (fun h0 => ?_) (fun h0 => LE_false (fun h => h0 h.1))
  refine Br.mk (fun h1 => ?_) (fun h1 => LE_false (fun h => h1 h.2.1))
  refine Br.mk (fun h2 => ?_) (fun h2 => LE_false (fun h => h2 h.2.2.1))
  refine Br.mk (fun h3 => ?_) (fun h3 => LE_false (fun h => h3 h.2.2.2.1))
  exact LE_pr ⟨fun h => ⟨h0, h1, h2, h3, h⟩, fun h => h.2.2.2.2⟩
theorem r_has (r : Rc) (x y : Int) : CallsG Tryz.prog 63 [.agg (rcE r), i64 x, i64 y] [] (pr (r.has x y)) [] := by
  have e := Rc.has_canon r x y
  refine calls_to tok mix Tryz.func63 rfl rfl rfl ?_
  refine CallV.to _ (r_canon r) rfl ?_
  refine Br.mk (fun h1 => ?_) (fun h1 => LE_false (fun h => h1 (e.1 h).1))
  refine Br.mk (fun h2 => ?_) (fun h2 => LE_false (fun h => h2 (e.1 h).2.1))
  refine Br.mk (fun h3 => ?_) (fun h3 => LE_false (fun h => h3 (e.1 h).2.2.1))
  exact LE_pr ⟨fun h => e.2 ⟨h1, h2, h3, h⟩, fun h => (e.1 h).2.2.2⟩
set_option maxRecDepth 100000 in
theorem p_meet (a b : Rc) : CallsG Tryz.prog 71 [.agg (rcE a), .agg (rcE b)] [] (.agg (rcE (a.meet b))) [] := by
  refine calls_to tok mix Tryz.func71 rfl rfl rfl ?_
  refine Dr.dyn (Ob.mk (by decide +kernel) ?_)
  refine CallV.to _ (p_canon a) rfl ?_
  refine CallV.to _ (p_canon b) rfl ?_
  refine Ob.mk (by kernel_rfl) ?_
  refine CallV.to _ (p_canon ⟨max a.canon.x0 b.canon.x0, max a.canon.y0 b.canon.y0, min a.canon.x1 b.canon.x1, min a.canon.y1 b.canon.y1⟩) rfl ?_
  exact LE_rc (Rc.meet_canon a b)
set_option maxRecDepth 100000 in
theorem r_meet (a b : Rc) : CallsG Tryz.prog 61 [.agg (rcE a), .agg (rcE b)] [] (.agg (rcE (a.meet b))) [] := by
  refine calls_to tok mix Tryz.func61 rfl rfl rfl ?_
  refine CallV.to _ (r_empty a) rfl ?_
  refine Br.mk (fun h1 => LE_rc (p := zeroR) (by unfold Rc.meet; rw [if_pos (.inl h1)])) (fun h1 => ?_)
  refine CallV.to _ (r_empty b) rfl ?_
  refine Br.mk (fun h2 => LE_rc (p := zeroR) (by unfold Rc.meet; rw [if_pos (.inr h2)])) (fun h2 => ?_)
  refine CallV.to _ (r_canon ⟨max a.x0 b.x0, max a.y0 b.y0, min a.x1 b.x1, min a.y1 b.y1⟩) rfl ?_
  exact LE_rc (by unfold Rc.meet; rw [if_neg (fun h => h.elim h1 h2)])
set_option maxRecDepth 100000 in
theorem p_idx (r : Rc) (x y : Int) : CallsG Tryz.prog 99 [.agg (rcE r), i64 x, i64 y] [] (i64 (r.idx x y)) [] := by
  refine calls_to tok mix Tryz.func99 rfl rfl rfl ?_
  refine CallV.to _ (p_has r x y) rfl ?_
  refine Br.mk (fun h1 => LE_int (by unfold Rc.idx; rw [if_neg h1])) (fun h1 => ?_)
  have h1 := Decidable.not_not.1 h1
  obtain ⟨⟨⟨a1, a2⟩, ⟨b1, b2⟩, ⟨c1, c2⟩, d1, d2⟩, _, _⟩ := Rc.notmt h1.1
  obtain ⟨h2, h3, h4, h5, h6⟩ := h1
  have hm := mulb (show 0 ≤ y - r.y0 by omega) (show y - r.y0 ≤ 8192 by omega) (show 0 ≤ r.x1 - r.x0 by omega) (show r.x1 - r.x0 ≤ 8192 by omega)
  refine Ar.fit (by omega) ?_
  refine Ar.fit (by omega) ?_
  refine Ar.fit (by omega) ?_
  refine Ar.fit (by omega) ?_
  refine Ar.fit (by omega) ?_
  exact LE_int (by unfold Rc.idx Rc.w; rw [if_pos ⟨h2, h3, h4, h5, h6⟩])
set_option maxRecDepth 100000 in
theorem r_idx (r : Rc) (x y : Int) : CallsG Tryz.prog 26 [.agg (rcE r), i64 x, i64 y] [] (i64 (r.idx x y)) [] := by
  refine calls_to tok mix Tryz.func26 rfl rfl rfl ?_
  refine CallV.to _ (r_has r x y) rfl ?_
  refine Br.mk (fun h1 => LE_int (by unfold Rc.idx; rw [if_neg h1])) (fun h1 => ?_)
  have h1 := Decidable.not_not.1 h1
  obtain ⟨⟨⟨a1, a2⟩, ⟨b1, b2⟩, ⟨c1, c2⟩, d1, d2⟩, _, _⟩ := Rc.notmt h1.1
  obtain ⟨h2, h3, h4, h5, h6⟩ := h1
  have hm := mulb (show 0 ≤ y - r.y0 by omega) (show y - r.y0 ≤ 8192 by omega) (show 0 ≤ r.x1 - r.x0 by omega) (show r.x1 - r.x0 ≤ 8192 by omega)
  refine Ar.fit (by omega) ?_
  refine Ar.fit (by omega) ?_
  refine Ar.fit (by omega) ?_
  refine Ar.fit (by omega) ?_
  refine Ar.fit (by omega) ?_
  exact LE_int (by unfold Rc.idx Rc.w; rw [if_pos ⟨h2, h3, h4, h5, h6⟩])

end Go.Gs
/- Blending, both texts: each component by itself. -/
namespace Go.Gs
open Go.Proofs

theorem LE_pix {p q : Pix} (h : p = q) : LE (.agg (pixE p)) (.agg (pixE q)) := by subst h; exact .refl
theorem p_clamp (p : Pix) : CallsG Tryz.prog 95 [.agg (pixE p)] [] (.agg (pixE (clampP p))) [] :=
  (c_pclamp p).le (LE_agg (.cons .refl (.cons .refl (.cons .refl (.cons (LE_int (by show min p.a p.a = p.a; omega)) .nil)))))
set_option maxRecDepth 100000 in
theorem r_clamp (p : Pix) : CallsG Tryz.prog 138 [.agg (pixE p)] [] (.agg (pixE (clampP p))) [] := by
  refine calls_to tok mix Tryz.func138 rfl rfl rfl ?_
  exact .refl
theorem p_scale1 (x k : Int) (hx : R8 x) (hk : R8 k) : CallsG Tryz.prog 112 [u8 x, .ptr [u8 k]] [] (u8 (mul8 x k)) [] := by
  refine calls_to tok mix Tryz.func112 rfl rfl rfl ?_
  refine CallV.to _ (c_mul8 x k hx hk) rfl ?_
  exact .refl
theorem p_eachs (p : Pix) (k : Int) (hp : P8 p) (hk : R8 k) : CallsG Tryz.prog 111 [.agg (pixE p), .fn 112 [.ptr [u8 k]]] [] (.agg (pixE (scaleP p k))) [] := by
  refine calls_to tok mix Tryz.func111 rfl rfl rfl ?_
  refine Dr.mk (by decide +kernel) ?_
  refine CallV.to _ (p_scale1 p.r k hp.1 hk) rfl ?_
  refine CallV.to _ (p_scale1 p.g k hp.2.1 hk) rfl ?_
  refine CallV.to _ (p_scale1 p.b k hp.2.2.1 hk) rfl ?_
  refine CallV.to _ (p_scale1 p.a k hp.2.2.2 hk) rfl ?_
  exact .refl
theorem p_scale (p : Pix) (k : Int) (hp : P8 p) (hk : R8 k) : CallsG Tryz.prog 81 [.agg (pixE p), u8 k] [] (.agg (pixE (scaleP p k))) [] := by
  refine calls_to tok mix Tryz.func81 rfl rfl rfl ?_
  refine CallV.to _ (p_eachs p k hp hk) rfl ?_
  exact .refl
theorem r_scale (p : Pix) (k : Int) (hp : P8 p) (hk : R8 k) : CallsG Tryz.prog 91 [.agg (pixE p), u8 k] [] (.agg (pixE (scaleP p k))) [] := by
  refine calls_to tok mix Tryz.func91 rfl rfl rfl ?_
  refine Dr.mk (by decide +kernel) ?_
  refine CallV.to _ (c_mul8' p.r k hp.1 hk) rfl ?_
  refine CallV.to _ (c_mul8' p.g k hp.2.1 hk) rfl ?_
  refine CallV.to _ (c_mul8' p.b k hp.2.2.1 hk) rfl ?_
  refine CallV.to _ (c_mul8' p.a k hp.2.2.2 hk) rfl ?_
  exact .refl

theorem dn8_fit {n : Int} (h : 0 ≤ n ∧ n ≤ 1000000) : fitI (rdiv n 255) = (2 * n + 255) / 510 := by
  have e : rdiv n 255 = (2 * n + 255) / 510 := rdivp h.1 (by decide)
  rw [e]; unfold fitI; rw [if_pos (by omega)]
theorem p_dn8 (n : Int) (h : 0 ≤ n ∧ n ≤ 1000000) : CallsG Tryz.prog 110 [i64 n] [] (u8 (dn8 n)) [] := by
  refine calls_to tok mix Tryz.func110 rfl rfl rfl ?_
  refine CallV.to _ (c_divround n 255 (by unfold R64; omega) (by decide)) rfl ?_
  rw [dn8_fit h]
  refine CallV.to _ (c_clamp ((2 * n + 255) / 510) 0 255) rfl ?_
  have e : clampI ((2 * n + 255) / 510) 0 255 = dn8 n := by rw [dn8_pos h.1]; unfold clampI; split <;> (try split) <;> omega
  rw [e]
  have := dn8_8 n
  unfold R8 at this
  refine Ar.fit (by omega) ?_
  exact .refl
theorem r_dn8 (n : Int) (h : 0 ≤ n ∧ n ≤ 1000000) : CallsG Tryz.prog 141 [i64 n] [] (u8 (dn8 n)) [] := by
  have e := dn8_pos h.1
  refine calls_to tok mix Tryz.func141 rfl rfl rfl ?_
  refine Br.mk (fun k => absurd k (by omega)) (fun _ => ?_)
  refine Br.mk (fun k => LE_int (by rw [e]; omega)) (fun k => ?_)
  refine Ar.fit (by omega) ?_
  refine Ar.fit (by omega) ?_
  refine Dv.pos ⟨by omega, by decide, by show _ ≤ (9223372036854775807 : Int); omega⟩ ?_
  refine Ar.fit (by omega) ?_
  exact LE_int (by rw [e]; omega)

theorem hardT_swap {low : Prop} [Decidable low] (s sa d da : Int) : hardT low d da s sa = hardT low s sa d da := by
  unfold hardT
  split <;> grind
theorem two_swap {s sa d da : Int} (h : Two s sa d da) : Two d da s sa := ⟨h.d0, h.d1, h.d2, h.s0, h.s1, h.s2⟩
structure TwoB (s sa d da : Int) : Prop where
  pa : 0 ≤ s * da ∧ s * da ≤ 65025
  pb : 0 ≤ d * sa ∧ d * sa ≤ 65025
  pc : 0 ≤ s * d ∧ s * d ≤ 65025
  pd : 0 ≤ sa * da ∧ sa * da ≤ 65025
  pe : 0 ≤ 2 * s * d ∧ 2 * s * d ≤ 130050
  pf : 0 ≤ 2 * (da - d) * (sa - s) ∧ 2 * (da - d) * (sa - s) ≤ 130050
theorem two_b' {s sa d da : Int} (h : Two s sa d da) : TwoB s sa d da := by
  obtain ⟨h1, h2, h3, h4, h5, h6⟩ := h
  refine ⟨mulb (A := 255) (B := 255) h1 (by omega) (by omega) h6, mulb (A := 255) (B := 255) h4 (by omega) (by omega) h3, mulb (A := 255) (B := 255) h1 (by omega) h4 (by omega), mulb (A := 255) (B := 255) (by omega) h3 (by omega) h6, ?_, ?_⟩
  · have := mulb (a := 2 * s) (b := d) (A := 510) (B := 255) (by omega) (by omega) h4 (by omega); omega
  · have := mulb (a := 2 * (da - d)) (b := sa - s) (A := 510) (B := 255) (by omega) (by omega) (by omega) (by omega); omega

theorem p_overlay (s sa d da : Int) (h : Two s sa d da) : CallsG Tryz.prog 231 [i64 s, i64 sa, i64 d, i64 da] [] (i64 (hardT (2 * d ≤ da) s sa d da)) [] := by
  obtain ⟨⟨a1, a2⟩, ⟨b1, b2⟩, ⟨c1, c2⟩, ⟨d1, d2⟩, ⟨e1, e2⟩, f1, f2⟩ := two_b' h
  obtain ⟨h1, h2, h3, h4, h5, h6⟩ := h
  refine calls_to tok mix Tryz.func231 rfl rfl rfl ?_
  refine Ar.fit (by omega) ?_
  refine Br.mk (fun k => ?_) (fun k => ?_)
  · refine Ar.fit (by omega) ?_
    refine Ar.fit (by omega) ?_
    exact LE_int (if_pos k).symm
  · refine Ar.fit (by omega) ?_
    refine Ar.fit (by omega) ?_
    refine Ar.fit (by omega) ?_
    refine Ar.fit (by omega) ?_
    refine Ar.fit (by omega) ?_
    refine Ar.fit (by omega) ?_
    exact LE_int (if_neg k).symm
theorem r_hard (low : Prop) [il : Decidable low] (s sa d da : Int) (h : Two s sa d da) : CallsG Tryz.prog 254 [.pr low il, i64 s, i64 sa, i64 d, i64 da] [] (i64 (hardT low s sa d da)) [] := by
  obtain ⟨⟨a1, a2⟩, ⟨b1, b2⟩, ⟨c1, c2⟩, ⟨d1, d2⟩, ⟨e1, e2⟩, f1, f2⟩ := two_b' h
  obtain ⟨h1, h2, h3, h4, h5, h6⟩ := h
  refine calls_to tok mix Tryz.func254 rfl rfl rfl ?_
  refine Br.mk (fun k => ?_) (fun k => ?_)
  · refine Ar.fit (by omega) ?_
    refine Ar.fit (by omega) ?_
    exact LE_int (if_pos k).symm
  · refine Ar.fit (by omega) ?_
    refine Ar.fit (by omega) ?_
    refine Ar.fit (by omega) ?_
    refine Ar.fit (by omega) ?_
    refine Ar.fit (by omega) ?_
    refine Ar.fit (by omega) ?_
    exact LE_int (if_neg k).symm
theorem r_mayT (s sa : Int) (h : 0 ≤ s ∧ s ≤ sa ∧ sa ≤ 255) : CallsG Tryz.prog 253 [i64 s, i64 sa] [] (bl true) [] := by
  refine calls_to tok mix Tryz.func253 rfl rfl rfl ?_
  refine Br.mk (fun _ => ?_) (fun k => absurd h.1 k)
  refine Br.mk (fun _ => ?_) (fun k => absurd h.2.1 k)
  exact LE_yes h.2.2

set_option maxRecDepth 100000 in
theorem p_term (mode s sa d da : Int) (h : Two s sa d da) : CallsG Tryz.prog 165 [i64 mode, i64 s, i64 sa, i64 d, i64 da] [] (i64 (term8 mode s sa d da)) [] := by
  obtain ⟨⟨a1, a2⟩, ⟨b1, b2⟩, ⟨c1, c2⟩, ⟨d1, d2⟩, ⟨e1, e2⟩, f1, f2⟩ := two_b' h
  have h' := h
  obtain ⟨h1, h2, h3, h4, h5, h6⟩ := h
  refine calls_to tok mix Tryz.func165 rfl rfl rfl ?_
  refine Br.mk (fun k2 => ?_) (fun n2 => ?_)
  · refine Ar.fit (by omega) ?_
    exact LE_int ((if_pos k2).symm)
  refine Br.mk (fun k3 => ?_) (fun n3 => ?_)
  · refine Ar.fit (by omega) ?_
    refine Ar.fit (by omega) ?_
    refine Ar.fit (by omega) ?_
    refine Ar.fit (by omega) ?_
    refine Ar.fit (by omega) ?_
    exact LE_int (((if_neg n2).trans (if_pos k3)).symm)
  refine Br.mk (fun k4 => ?_) (fun n4 => ?_)
  · refine CallV.to _ (p_overlay s sa d da h') rfl ?_
    exact LE_int (((if_neg n2).trans ((if_neg n3).trans (if_pos k4))).symm)
  refine Br.mk (fun k5 => ?_) (fun n5 => ?_)
  · refine Ar.fit (by omega) ?_
    refine Ar.fit (by omega) ?_
    exact LE_int (((if_neg n2).trans ((if_neg n3).trans ((if_neg n4).trans (if_pos k5)))).symm)
  refine Br.mk (fun k6 => ?_) (fun n6 => ?_)
  · refine Ar.fit (by omega) ?_
    refine Ar.fit (by omega) ?_
    exact LE_int (((if_neg n2).trans ((if_neg n3).trans ((if_neg n4).trans ((if_neg n5).trans (if_pos k6))))).symm)
  refine Br.mk (fun k7 => ?_) (fun n7 => ?_)
  · refine Ar.fit (by omega) ?_
    refine Ar.fit (by omega) ?_
    refine Ar.fit (by omega) ?_
    refine Ar.fit (by omega) ?_
    refine Ar.fit (by show (-9223372036854775808 : Int) ≤ max (s * da) (d * sa) - min (s * da) (d * sa) ∧ max (s * da) (d * sa) - min (s * da) (d * sa) ≤ 9223372036854775807; omega) ?_
    exact LE_int (((if_neg n2).trans ((if_neg n3).trans ((if_neg n4).trans ((if_neg n5).trans ((if_neg n6).trans (if_pos k7)))))).symm)
  refine Br.mk (fun k8 => ?_) (fun n8 => ?_)
  · refine Ar.fit (by omega) ?_
    refine Ar.fit (by omega) ?_
    refine Ar.fit (by omega) ?_
    refine Ar.fit (by omega) ?_
    refine Ar.fit (by omega) ?_
    refine Ar.fit (by omega) ?_
    exact LE_int (((if_neg n2).trans ((if_neg n3).trans ((if_neg n4).trans ((if_neg n5).trans ((if_neg n6).trans ((if_neg n7).trans (if_pos k8))))))).symm)
  refine Br.mk (fun k9 => ?_) (fun n9 => ?_)
  · refine CallV.to _ (p_overlay d da s sa (two_swap h')) rfl ?_
    exact LE_int ((hardT_swap s sa d da).trans ((if_neg n2).trans ((if_neg n3).trans ((if_neg n4).trans ((if_neg n5).trans ((if_neg n6).trans ((if_neg n7).trans ((if_neg n8).trans (if_pos k9)))))))).symm)
  refine Ar.fit (by omega) ?_
  exact LE_int (((if_neg n2).trans ((if_neg n3).trans ((if_neg n4).trans ((if_neg n5).trans ((if_neg n6).trans ((if_neg n7).trans ((if_neg n8).trans (if_neg n9)))))))).symm)

set_option maxRecDepth 100000 in
theorem r_term (mode s sa d da : Int) (h : Two s sa d da) (hm : 1 ≤ mode ∧ mode ≤ 9) : CallsG Tryz.prog 198 [i64 mode, i64 s, i64 sa, i64 d, i64 da] [] (i64 (term8 mode s sa d da)) [] := by
  obtain ⟨⟨a1, a2⟩, ⟨b1, b2⟩, ⟨c1, c2⟩, ⟨d1, d2⟩, ⟨e1, e2⟩, f1, f2⟩ := two_b' h
  have h' := h
  obtain ⟨h1, h2, h3, h4, h5, h6⟩ := h
  refine calls_to tok mix Tryz.func198 rfl rfl rfl ?_
  refine CallV.to _ (r_mayT s sa ⟨h1, h2, h3⟩) rfl ?_
  refine CallV.to _ (r_mayT d da ⟨h4, h5, h6⟩) rfl ?_
  refine Ar.fit (by omega) ?_
  refine Ar.fit (by omega) ?_
  refine Br.mk (fun k1 => ?_) (fun n1 => ?_)
  · exact LE_int (by subst k1; rfl)
  refine Br.mk (fun k2 => ?_) (fun n2 => ?_)
  · refine Ar.fit (by omega) ?_
    exact LE_int (by subst k2; rfl)
  refine Br.mk (fun k3 => ?_) (fun n3 => ?_)
  · refine Ar.fit (by omega) ?_
    refine Ar.fit (by omega) ?_
    refine Ar.fit (by omega) ?_
    exact LE_int (by subst k3; rfl)
  refine Br.mk (fun k4 => ?_) (fun n4 => ?_)
  · refine Ar.fit (by omega) ?_
    refine CallV.to _ (r_hard (2 * d ≤ da) s sa d da h') rfl ?_
    exact LE_int (by subst k4; rfl)
  refine Br.mk (fun k9 => ?_) (fun n9 => ?_)
  · refine Ar.fit (by omega) ?_
    refine CallV.to _ (r_hard (2 * s ≤ sa) s sa d da h') rfl ?_
    exact LE_int (by subst k9; rfl)
  refine Br.mk (fun k5 => ?_) (fun n5 => ?_)
  · exact LE_int (by subst k5; rfl)
  refine Br.mk (fun k6 => ?_) (fun n6 => ?_)
  · exact LE_int (by subst k6; rfl)
  refine Br.mk (fun k7 => ?_) (fun n7 => ?_)
  · refine Ar.fit (by omega) ?_
    refine Ar.fit (by omega) ?_
    exact LE_int (by subst k7; show max (s * da - d * sa) (d * sa - s * da) = max (s * da) (d * sa) - min (s * da) (d * sa); omega)
  refine Br.mk (fun k8 => ?_) (fun n8 => ?_)
  · refine Ar.fit (by omega) ?_
    refine Ar.fit (by omega) ?_
    refine Ar.fit (by omega) ?_
    refine Ar.fit (by omega) ?_
    exact LE_int (by subst k8; rfl)
  exact absurd hm (by omega)

theorem two_sum {s sa d da : Int} (h : Two s sa d da) (mode : Int) : (0 ≤ s * (255 - da) ∧ s * (255 - da) ≤ 65025) ∧ (0 ≤ d * (255 - sa) ∧ d * (255 - sa) ≤ 65025) ∧ 0 ≤ term8 mode s sa d da ∧ term8 mode s sa d da ≤ 65025 := by
  obtain ⟨k1, k2, k3, k4, _, _⟩ := one8_sum (mode := mode) h
  have e := term8_range mode h
  have f := (two_b' h).pd
  omega
theorem p_chan (mode s sa d da : Int) (h : Two s sa d da) : CallsG Tryz.prog 109 [i64 mode, i64 s, i64 sa, i64 d, i64 da] [] (u8 (one8 mode s sa d da)) [] := by
  obtain ⟨⟨a1, a2⟩, ⟨b1, b2⟩, c1, c2⟩ := two_sum h mode
  have h' := h
  obtain ⟨h1, h2, h3, h4, h5, h6⟩ := h
  refine calls_to tok mix Tryz.func109 rfl rfl rfl ?_
  refine Ar.fit (by omega) ?_
  refine Ar.fit (by omega) ?_
  refine Ar.fit (by omega) ?_
  refine Ar.fit (by omega) ?_
  refine Ar.fit (by omega) ?_
  refine CallV.to _ (p_term mode s sa d da h') rfl ?_
  refine Ar.fit (by omega) ?_
  refine CallV.to _ (p_dn8 (s * (255 - da) + d * (255 - sa) + term8 mode s sa d da) (by omega)) rfl ?_
  exact .refl
theorem r_one (mode s sa d da : Int) (h : Two s sa d da) (hm : 1 ≤ mode ∧ mode ≤ 9) : CallsG Tryz.prog 140 [i64 mode, u8 s, u8 sa, u8 d, u8 da] [] (u8 (one8 mode s sa d da)) [] := by
  obtain ⟨⟨a1, a2⟩, ⟨b1, b2⟩, c1, c2⟩ := two_sum h mode
  have h' := h
  obtain ⟨h1, h2, h3, h4, h5, h6⟩ := h
  refine calls_to tok mix Tryz.func140 rfl rfl rfl ?_
  refine Ar.fit (by omega) ?_
  refine Ar.fit (by omega) ?_
  refine Ar.fit (by omega) ?_
  refine Ar.fit (by omega) ?_
  refine Ar.fit (by omega) ?_
  refine Ar.fit (by omega) ?_
  refine Ar.fit (by omega) ?_
  refine Ar.fit (by omega) ?_
  refine Ar.fit (by omega) ?_
  refine CallV.to _ (r_term mode s sa d da h' hm) rfl ?_
  refine Ar.fit (by omega) ?_
  refine CallV.to _ (r_dn8 (s * (255 - da) + d * (255 - sa) + term8 mode s sa d da) (by omega)) rfl ?_
  exact .refl
theorem p_mode (m : Int) : CallsG Tryz.prog 55 [i64 m] [] (pr (modeOK m)) [] := by
  refine calls_to tok mix Tryz.func55 rfl rfl rfl ?_
  refine Br.mk (fun h1 => ?_) (fun h1 => LE_false (fun h => h1 h.1))
  exact LE_pr ⟨fun h => ⟨h1, h⟩, fun h => h.2⟩
theorem r_mode (m : Int) : CallsG Tryz.prog 48 [i64 m] [] (pr (modeOK m)) [] := by
  refine calls_to tok mix Tryz.func48 rfl rfl rfl ?_
  refine Br.mk (fun h1 => ?_) (fun h1 => LE_false (fun h => h1 h.1))
  exact LE_pr ⟨fun h => ⟨h1, h⟩, fun h => h.2⟩
theorem p_sep (m : Int) : CallsG Tryz.prog 107 [i64 m] [] (pr (1 ≤ m ∧ m ≤ 9)) [] := by
  refine calls_to tok mix Tryz.func107 rfl rfl rfl ?_
  refine Br.mk (fun h1 => ?_) (fun h1 => LE_false (fun h => h1 h.1))
  exact LE_pr ⟨fun h => ⟨h1, h⟩, fun h => h.2⟩

end Go.Gs
