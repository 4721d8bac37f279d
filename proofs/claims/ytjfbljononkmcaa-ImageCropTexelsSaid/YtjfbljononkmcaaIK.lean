/- The texels of a part of a picture; the law of them. -/
import Derived.Test.YtjfbljononkmcaaIJ
namespace Go.Gs
open Go.Proofs

theorem cropPx_full (m : Img) (hw : 1 ≤ m.w) (n : Nat) : cropPx m 0 0 m.w n = m.px.take (n * m.w.toNat) := by
  induction n with
  | zero => simp [cropPx]
  | succ n ih =>
    have e : ((0 + (n : Int)) * m.w + 0).toNat = n * m.w.toNat := by
      have : (n : Int) * m.w = ((n * m.w.toNat : Nat) : Int) := by rw [Int.natCast_mul, Int.toNat_of_nonneg (by omega)]
      rw [Int.zero_add, Int.add_zero, this, Int.toNat_natCast]
    rw [cropPx_succ, ih, e, Nat.succ_mul, List.take_add]

theorem crop_full {m : Img} (h : imgOK m) : crop m 0 0 m.w m.h = (m, 0) := by
  obtain ⟨h1, h2, h3, h4, h5⟩ := id h
  rw [crop, if_neg (fun n => n h), if_neg (fun n => n ⟨by omega, by omega, by omega, by omega, by omega, by omega⟩), cropPx_full m h1.1, List.take_of_length_le]
  have : ((m.h.toNat * m.w.toNat : Nat) : Int) = m.w * m.h := by rw [Int.natCast_mul, Int.toNat_of_nonneg (by omega), Int.toNat_of_nonneg (by omega), Int.mul_comm]
  omega

theorem cropPx_at {m : Img} {x y w : Int} (hm : imgOK m) (hx : 0 ≤ x) (hy : 0 ≤ y) (hw : 1 ≤ w) (hxw : w ≤ m.w - x) (n : Nat) (hn : (n : Int) ≤ m.h - y) :
    (cropPx m x y w n).length = n * w.toNat ∧ ∀ (j i : Nat), j < n → i < w.toNat → (cropPx m x y w n)[j * w.toNat + i]? = m.px[((y + j) * m.w + x).toNat + i]? := by
  obtain ⟨h1, h2, h3, h4, _⟩ := hm
  induction n with
  | zero => simp [cropPx]
  | succ n ih =>
    obtain ⟨i1, i2⟩ := ih (by omega)
    have hb := place_lt (a := x) (b := y + n) (w := m.w) (h := m.h) ⟨by omega, by omega⟩ ⟨by omega, by omega⟩ h4
    have hb2 : (y + n) * m.w + x + w ≤ m.px.length := by
      have e : (y + n + 1) * m.w ≤ m.h * m.w := Int.mul_le_mul_of_nonneg_right (by omega) (by omega)
      rw [Int.add_mul, Int.one_mul, Int.mul_comm m.h m.w] at e
      omega
    rw [cropPx_succ]
    refine ⟨?_, fun j i hj hi => ?_⟩
    · rw [List.length_append, i1, List.length_take, List.length_drop, Nat.succ_mul]; omega
    · by_cases e : j = n
      · subst e
        rw [List.getElem?_append_right (by omega), i1, Nat.add_sub_cancel_left, List.getElem?_take, if_pos hi, List.getElem?_drop]
      · have hlt : (j + 1) * w.toNat ≤ n * w.toNat := Nat.mul_le_mul_right _ (by omega)
        rw [Nat.succ_mul] at hlt
        rw [List.getElem?_append_left (by omega)]
        exact i2 j i (by omega) hi

theorem crop_ok {m : Img} {x y w h : Int} (hm : imgOK m) (hc : cropIn m x y w h) : imgOK ⟨w, h, cropPx m x y w h.toNat⟩ := by
  obtain ⟨c1, c2, c3, c4, c5, c6⟩ := hc
  obtain ⟨k1, _⟩ := cropPx_at hm c1 c2 c3 c5 h.toNat (by omega)
  obtain ⟨h1, h2, h3, h4, h5⟩ := hm
  refine ⟨⟨c3, by show w ≤ 4096; omega⟩, ⟨c4, by show h ≤ 4096; omega⟩, ?_, ?_, ?_⟩
  · show w * h ≤ 65536
    have := (mul_r (show 0 ≤ w by omega) (show w ≤ m.w by omega) (show 0 ≤ h by omega) (show h ≤ m.h by omega)).2
    omega
  · show ((cropPx m x y w h.toNat).length : Int) = w * h
    rw [k1, Int.natCast_mul, Int.toNat_of_nonneg (by omega), Int.toNat_of_nonneg (by omega), Int.mul_comm]
  · intro p hp
    obtain ⟨j, _, hj⟩ := List.mem_flatMap.1 hp
    exact h5 p (List.mem_of_mem_drop (List.mem_of_mem_take hj))

theorem crop_texel {m : Img} {x y w h i j : Int} (hm : imgOK m) (hc : cropIn m x y w h) (hi : 0 ≤ i ∧ i < w) (hj : 0 ≤ j ∧ j < h) :
    texel ⟨w, h, cropPx m x y w h.toNat⟩ i j 0 = texel m (x + i) (y + j) 0 := by
  obtain ⟨c1, c2, c3, c4, c5, c6⟩ := id hc
  have w1 : ∀ {a n : Int}, 0 ≤ a ∧ a < n → wrapI a n 0 = (a, true) := fun h => by
    unfold wrapI; rw [if_neg (by omega), if_pos h]
  have e1 := w1 hi
  have e2 := w1 hj
  have e3 := w1 (a := x + i) (n := m.w) ⟨by omega, by omega⟩
  have e4 := w1 (a := y + j) (n := m.h) ⟨by omega, by omega⟩
  obtain ⟨_, k2⟩ := cropPx_at hm c1 c2 c3 c5 h.toNat (by omega)
  have k3 := k2 j.toNat i.toNat (by omega) (by omega)
  have n1 : (j * w + i).toNat = j.toNat * w.toNat + i.toNat := by
    have : j * w = ((j.toNat * w.toNat : Nat) : Int) := by rw [Int.natCast_mul, Int.toNat_of_nonneg (by omega), Int.toNat_of_nonneg (by omega)]
    omega
  have hb := place_lt (a := x) (b := y + j) (w := m.w) (h := m.h) ⟨by omega, by omega⟩ ⟨by omega, by omega⟩ rfl
  have n2 : ((y + j) * m.w + (x + i)).toNat = ((y + (j.toNat : Int)) * m.w + x).toNat + i.toNat := by
    rw [Int.toNat_of_nonneg hj.1]; omega
  rw [texel, if_pos (crop_ok hm hc), texel, if_pos hm]
  simp only [texelI, e1, e2, e3, e4, and_self, if_true, List.getD_eq_getElem?_getD]
  rw [n1, n2, k3]

theorem u64_nonneg (a : Int) : 0 ≤ IntKind.u64.wrap a := Int.emod_nonneg _ (by decide)

set_option maxRecDepth 100000 in
set_option maxHeartbeats 2000000 in
theorem c_law6 (m : Img) (x y w h a b : Int) (hx : R64 x) (hy : R64 y) (hw : R64 w) (hh : R64 h) :
    CallsG Try.prog 6 [.agg (imgE m), .agg [i64 x, i64 y, i64 w, i64 h], .agg [i64 a, i64 b]] [] (bl true) [] := by
  refine calls_to tok mix Try.func6 rfl rfl rfl ?_
  refine CallV.to _ (c_small m) rfl ?_
  refine Br.mk (fun _ => CallV.to _ c_example rfl .refl) (fun h1 => ?_)
  refine CallV.to _ (c_valid' m) rfl ?_
  refine Br.mk (fun _ => CallV.to _ c_example rfl .refl) (fun h2 => ?_)
  have h2 := Decidable.not_not.1 h2
  obtain ⟨m1, m2, m3, m4, _⟩ := id h2
  refine CallV.fresh _ _ (c_crop m 0 0 m.w m.h (by omega) (by omega) (by omega) (by omega) (by omega)) rfl (pix_flat _) (.inr (pix_scalar _)) ?_
  rw [crop_full h2]
  refine Br.mk (fun k => absurd rfl k) (fun _ => ?_)
  refine CallV.to _ (c_equal' m m) rfl ?_
  refine Br.mk (fun k => absurd rfl k) (fun _ => ?_)
  have cc0 := c_crop m x y w h (by omega) hx hy hw hh
  have hcr : crop m x y w h = if ¬ cropIn m x y w h then (⟨0, 0, []⟩, 6) else (⟨w, h, cropPx m x y w h.toNat⟩, 0) := by rw [crop, if_neg (fun n => n h2)]
  by_cases hc : ¬ cropIn m x y w h
  · rw [if_pos hc] at hcr
    rw [hcr] at cc0
    refine CallV.fresh _ _ cc0 rfl (pix_flat _) (.inr (pix_scalar _)) ?_
    refine Br.mk (fun _ => ?_) (fun k => absurd (by decide) k)
    refine Br.mk (fun _ => ?_) (fun k => absurd rfl k)
    refine CallV.to _ c_example rfl ?_
    exact .refl
  rw [if_neg hc] at hcr
  have hc := Decidable.not_not.1 hc
  obtain ⟨c1, c2, c3, c4, c5, c6⟩ := id hc
  have cc : CallsG Try.prog 15 [.agg (imgE m), i64 x, i64 y, i64 w, i64 h] [] (.tup [.agg [i64 w, i64 h, .own 0], i64 0]) [(0, .arr 37 pixE 4 (cropPx m x y w h.toNat))] := by
    rw [hcr] at cc0; exact cc0
  refine CallV.fresh _ _ cc rfl (pix_flat _) (.inr (pix_scalar _)) ?_
  refine Br.mk (fun k => absurd rfl k) (fun _ => ?_)
  refine Br.mk (fun k => absurd k (by omega)) (fun _ => ?_)
  refine Br.mk (fun k => absurd k (by omega)) (fun _ => ?_)
  have ok := crop_ok h2 hc
  have len : (cropPx m x y w h.toNat).length ≤ 65536 := by
    obtain ⟨_, _, o3, o4, _⟩ := ok
    dsimp only at o3 o4; omega
  refine Dr.mk (by decide +kernel) ?_
  refine Ar.wrap ?_
  refine Ar.fit (by omega) ?_
  refine Dv.pos ⟨u64_nonneg _, by omega⟩ ?_
  have ri := Int.emod_nonneg (IntKind.u64.wrap a) (show w ≠ 0 by omega)
  have ri2 := Int.emod_lt_of_pos (IntKind.u64.wrap a) (show 0 < w by omega)
  refine Ar.fit (by omega) ?_
  refine Ar.wrap ?_
  refine Ar.fit (by omega) ?_
  refine Dv.pos ⟨u64_nonneg _, by omega⟩ ?_
  have rj := Int.emod_nonneg (IntKind.u64.wrap b) (show h ≠ 0 by omega)
  have rj2 := Int.emod_lt_of_pos (IntKind.u64.wrap b) (show 0 < h by omega)
  refine Ar.fit (by omega) ?_
  have tx := crop_texel h2 hc ⟨ri, ri2⟩ ⟨rj, rj2⟩
  generalize IntKind.u64.wrap a % w = i at *
  generalize IntKind.u64.wrap b % h = j at *
  refine Dr.mk (by decide +kernel) ?_
  refine CallV.to _ (c_texel ⟨w, h, cropPx m x y w h.toNat⟩ i j 0 (by dsimp only; omega) (by omega) (by omega)) rfl ?_
  refine Ar.fit (by omega) ?_
  refine Ar.fit (by omega) ?_
  refine CallV.to _ (c_texel m (x + i) (y + j) 0 (by omega) (by omega) (by omega)) rfl ?_
  rw [tx]
  refine Br.mk (fun _ => ?_) (fun k => absurd (pix_eq.2 rfl) k)
  refine CallV.to _ (c_valid ⟨w, h, cropPx m x y w h.toNat⟩ (by dsimp only; omega)) rfl ?_
  refine Br.mk (fun _ => ?_) (fun k => absurd ok k)
  refine CallV.to _ c_example rfl ?_
  exact .refl
end Go.Gs
