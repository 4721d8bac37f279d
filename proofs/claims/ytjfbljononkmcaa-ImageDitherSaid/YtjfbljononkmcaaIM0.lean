/- Dithered pictures: what the pixels are. -/
import Derived.Test.YtjfbljononkmcaaIM
import Derived.Test.YtjfbljononkmcaaIJ
namespace Go.Gs
open Go.Proofs

def bayerL : List Int := [0, 8, 2, 10, 12, 4, 14, 6, 3, 11, 1, 9, 15, 7, 13, 5]
def thr (x y : Int) : Int := (bayerL[(y % 4 * 4 + x % 4).toNat]?).getD 0
def lev (v L b : Int) : Int := rdiv (255 * ((32 * v * (L - 1) + 255 * (2 * b + 1)) / 8160)) (L - 1)
def ditP (p : Pix) (L b : Int) : Pix := ⟨min (lev p.r L b) (lev p.a L b), min (lev p.g L b) (lev p.a L b), min (lev p.b L b) (lev p.a L b), lev p.a L b⟩
def ditPx (m : Img) (L : Int) : List Pix := m.px.mapIdx fun i p => ditP p L (thr (i % m.w) (i / m.w))
def dither (m : Img) (L : Int) : Img × Int := if ¬ imgOK m then (⟨0, 0, []⟩, 16) else if L < 2 ∨ 256 < L then (⟨0, 0, []⟩, 2) else (⟨m.w, m.h, ditPx m L⟩, 0)

theorem thr_range (x y : Int) : 0 ≤ thr x y ∧ thr x y ≤ 15 := by
  unfold thr
  cases h : bayerL[(y % 4 * 4 + x % 4).toNat]? with
  | none => exact ⟨by decide, by decide⟩
  | some b =>
    have : ∀ z ∈ bayerL, 0 ≤ z ∧ z ≤ 15 := by decide
    exact this b (List.mem_of_getElem? h)

theorem rdiv_pos {a b : Int} (ha : 0 ≤ a) (hb : 0 < b) : rdiv a b = (2 * a + b) / (2 * b) := by
  obtain ⟨a, rfl⟩ := Int.eq_ofNat_of_zero_le ha
  obtain ⟨b, rfl⟩ := Int.eq_ofNat_of_zero_le (Int.le_of_lt hb)
  unfold rdiv
  rw [if_pos (by omega)]
  simp

theorem lev_facts {v L b : Int} (hv : R8 v) (hL : 2 ≤ L ∧ L ≤ 256) (hb : 0 ≤ b ∧ b ≤ 15) :
    0 ≤ 32 * v * (L - 1) ∧ 32 * v * (L - 1) ≤ 8160 * (L - 1) ∧ 0 ≤ (32 * v * (L - 1) + 255 * (2 * b + 1)) / 8160 ∧ (32 * v * (L - 1) + 255 * (2 * b + 1)) / 8160 ≤ L - 1 ∧ R8 (lev v L b) := by
  have h1 : 0 ≤ 32 * v * (L - 1) := Int.mul_nonneg (by omega) (by omega)
  have h2 : 32 * v * (L - 1) ≤ 8160 * (L - 1) := Int.mul_le_mul_of_nonneg_right (by omega) (by omega)
  have h3 : 0 ≤ (32 * v * (L - 1) + 255 * (2 * b + 1)) / 8160 := by omega
  have h4 : (32 * v * (L - 1) + 255 * (2 * b + 1)) / 8160 ≤ L - 1 := by omega
  refine ⟨h1, h2, h3, h4, ?_⟩
  unfold lev
  generalize (32 * v * (L - 1) + 255 * (2 * b + 1)) / 8160 = k at *
  rw [rdiv_pos (by omega) (by omega)]
  refine ⟨Int.ediv_nonneg (by omega) (by omega), ?_⟩
  have : (2 * (255 * k) + (L - 1)) / (2 * (L - 1)) < 256 := Int.ediv_lt_of_lt_mul (by omega) (by omega)
  omega

theorem lev_256 {v b : Int} (hv : R8 v) (hb : 0 ≤ b ∧ b ≤ 15) : lev v 256 b = v := by
  unfold lev
  have : (32 * v * (256 - 1) + 255 * (2 * b + 1)) / 8160 = v := by omega
  rw [this, rdiv_pos (by omega) (by omega)]
  omega

theorem ditP_256 {p : Pix} {b : Int} (hp : pxOK p) (h : R8 p.r ∧ R8 p.g ∧ R8 p.b ∧ R8 p.a) (hb : 0 ≤ b ∧ b ≤ 15) : ditP p 256 b = p := by
  obtain ⟨h1, h2, h3⟩ := hp
  unfold ditP
  rw [lev_256 h.1 hb, lev_256 h.2.1 hb, lev_256 h.2.2.1 hb, lev_256 h.2.2.2 hb]
  rw [Int.min_eq_left h1, Int.min_eq_left h2, Int.min_eq_left h3]

theorem ditPx_256 {m : Img} (hm : imgOK m) (h : ∀ q ∈ m.px, R8 q.r ∧ R8 q.g ∧ R8 q.b ∧ R8 q.a) : ditPx m 256 = m.px := by
  unfold ditPx
  refine List.ext_getElem? fun i => ?_
  rw [List.getElem?_mapIdx]
  cases hi : m.px[i]? with
  | none => rfl
  | some p =>
    have hp := List.mem_of_getElem? hi
    simp only [Option.map_some]
    rw [ditP_256 (hm.2.2.2.2 p hp) (h p hp) (thr_range _ _)]

theorem ditPx_ok {m : Img} {L : Int} (hm : imgOK m) : imgOK ⟨m.w, m.h, ditPx m L⟩ := by
  refine ⟨hm.1, hm.2.1, hm.2.2.1, ?_, fun p hp => ?_⟩
  · show ((ditPx m L).length : Int) = _
    unfold ditPx
    rw [List.length_mapIdx]; exact hm.2.2.2.1
  · obtain ⟨i, hi⟩ := List.getElem?_of_mem hp
    have hi : (ditPx m L)[i]? = some p := hi
    unfold ditPx at hi
    rw [List.getElem?_mapIdx] at hi
    cases hq : m.px[i]? with
    | none => rw [hq] at hi; cases hi
    | some q =>
      rw [hq] at hi
      cases hi
      exact ⟨Int.min_le_right _ _, Int.min_le_right _ _, Int.min_le_right _ _⟩

/-- The pixels ahead of 'i'. -/
def ditTo (m : Img) (L : Int) (i : Nat) : List Pix := (ditPx m L).take i
theorem ditTo_succ {m : Img} {L : Int} {i : Nat} {p : Pix} (h : m.px[i]? = some p) : ditTo m L (i + 1) = ditTo m L i ++ [ditP p L (thr (i % m.w) (i / m.w))] := by
  unfold ditTo
  rw [List.take_add_one]
  congr 1
  unfold ditPx
  rw [List.getElem?_mapIdx, h]; rfl
theorem ditTo_len (m : Img) (L : Int) (i : Nat) : (ditTo m L i).length ≤ i := by unfold ditTo; rw [List.length_take]; omega
theorem ditPx_len (m : Img) (L : Int) : (ditPx m L).length = m.px.length := by unfold ditPx; rw [List.length_mapIdx]

/-! ### The functions -/
theorem c_threshold (x y : Int) (hx : 0 ≤ x) (hy : 0 ≤ y) : CallsG Try.prog 47 [i64 x, i64 y] [] (i64 (thr x y)) [] := by
  have h1 : x % 4 = 0 ∨ x % 4 = 1 ∨ x % 4 = 2 ∨ x % 4 = 3 := by omega
  have h2 : y % 4 = 0 ∨ y % 4 = 1 ∨ y % 4 = 2 ∨ y % 4 = 3 := by omega
  refine calls_to tok mix Try.func47 rfl rfl rfl ?_
  refine Dv.pos ⟨by omega, by omega⟩ ?_
  rcases h2 with h2 | h2 | h2 | h2 <;> rcases h1 with h1 | h1 | h1 | h1 <;>
    (rw [h2]; refine Dv.pos ⟨by omega, by omega⟩ ?_; rw [h1]; exact LE_int (by unfold thr; rw [h1, h2]; rfl))

set_option maxRecDepth 100000 in
theorem c_bayer (x y : Int) (hx : 0 ≤ x) (hy : 0 ≤ y) : CallsG Try.prog 52 [i64 x, i64 y] [] (i64 (thr x y)) [] := by
  refine calls_to tok mix Try.func52 rfl rfl rfl ?_
  refine ⟨Int, fun n => [i64 n], bayerL, rfl, Ob.mk ⟨rfl, by decide, by decide, by decide, fun _ _ => ⟨rfl, rfl, rfl⟩⟩ ?_⟩
  refine Dv.pos ⟨by omega, by omega⟩ ?_
  refine Ar.fit (by omega) ?_
  refine Dv.pos ⟨by omega, by omega⟩ ?_
  refine Ar.fit (by omega) ?_
  have hl : bayerL.length = 16 := rfl
  refine Ob.mk (by omega) ?_
  refine Ob.mk (by omega) ?_
  intro b hb
  exact LE_int (by unfold thr; rw [hb]; rfl)

theorem c_level (v L b : Int) (hv : R8 v) (hL : 2 ≤ L ∧ L ≤ 256) (hb : 0 ≤ b ∧ b ≤ 15) : CallsG Try.prog 49 [i64 v, i64 L, i64 b] [] (u8 (lev v L b)) [] := by
  obtain ⟨h1, h2, h3, h4, h5⟩ := lev_facts hv hL hb
  refine calls_to tok mix Try.func49 rfl rfl rfl ?_
  refine Ar.fit (by omega) ?_
  refine Ar.fit (by omega) ?_
  refine Ar.fit (by omega) ?_
  refine Ar.fit (by omega) ?_
  refine Ar.fit (by omega) ?_
  refine Ar.fit (by omega) ?_
  refine Ar.fit (by omega) ?_
  refine Dv.pos ⟨by omega, by omega, by show _ ≤ (9223372036854775807 : Int); omega⟩ ?_
  unfold lev at h5 ⊢
  generalize (32 * v * (L - 1) + 255 * (2 * b + 1)) / 8160 = k at *
  refine Ar.fit (by omega) ?_
  refine Ar.fit (by omega) ?_
  refine CallV.to _ (c_divround _ _ (by omega) (by omega)) rfl ?_
  rw [show fitI (rdiv (255 * k) (L - 1)) = rdiv (255 * k) (L - 1) by rw [fitI, if_pos (by omega)]]
  refine Ar.fit h5 ?_
  exact .refl

theorem c_dithered (v L b : Int) (hv : R8 v) (hL : 2 ≤ L ∧ L ≤ 256) (hb : 0 ≤ b ∧ b ≤ 15) : CallsG Try.prog 54 [u8 v, i64 b, i64 L] [] (u8 (lev v L b)) [] := by
  obtain ⟨h1, h2, h3, h4, h5⟩ := lev_facts hv hL hb
  refine calls_to tok mix Try.func54 rfl rfl rfl ?_
  refine Ar.fit (by omega) ?_
  refine Ar.fit (by omega) ?_
  refine Ar.fit (by omega) ?_
  refine Ar.fit (by omega) ?_
  refine Ar.fit (by omega) ?_
  refine Ar.fit (by omega) ?_
  refine Ar.fit (by omega) ?_
  refine Ar.fit (by omega) ?_
  refine Dv.pos ⟨by omega, by omega, by show _ ≤ (9223372036854775807 : Int); omega⟩ ?_
  unfold lev at h5 ⊢
  generalize (32 * v * (L - 1) + 255 * (2 * b + 1)) / 8160 = k at *
  refine Ar.fit (by omega) ?_
  refine Ar.fit (by omega) ?_
  refine CallV.to _ (r8_divround _ _ (by omega) (by omega)) rfl ?_
  rw [show fitI (rdiv (255 * k) (L - 1)) = rdiv (255 * k) (L - 1) by rw [fitI, if_pos (by omega)]]
  refine Ar.fit h5 ?_
  exact .refl

set_option maxRecDepth 100000 in
theorem c_pclamp' (p : Pix) : CallsG Try.prog 53 [.agg (pixE p)] [] (.agg [u8 (min p.r p.a), u8 (min p.g p.a), u8 (min p.b p.a), u8 p.a]) [] := by
  refine calls_to tok mix Try.func53 rfl rfl rfl ?_
  exact .refl

end Go.Gs
