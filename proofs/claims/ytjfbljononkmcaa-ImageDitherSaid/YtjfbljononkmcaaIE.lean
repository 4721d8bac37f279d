/- Texels; the third law. -/
import Derived.Test.YtjfbljononkmcaaID
namespace Go.Gs
open Go.Proofs

theorem wrapI_lt {i n m : Int} (h : (wrapI i n m).2 = true) : 0 ≤ (wrapI i n m).1 ∧ (wrapI i n m).1 < n := by
  unfold wrapI at h ⊢
  by_cases h1 : n < 1
  · simp [h1] at h
  have hem := Int.emod_nonneg i (show n ≠ 0 by omega)
  have hem2 := Int.emod_lt_of_pos i (show 0 < n by omega)
  rw [if_neg h1] at h ⊢
  split
  · rename_i h2; exact ⟨h2.1, h2.2⟩
  · split
    · simp only [clampI]; split <;> (try split) <;> omega
    · split
      · exact ⟨hem, hem2⟩
      · split
        · dsimp only; split <;> omega
        · simp_all

def zeroP : Pix := ⟨0, 0, 0, 0⟩
def texelI (m : Img) (x y md : Int) : Pix := if (wrapI x m.w md).2 = true ∧ (wrapI y m.h md).2 = true then m.px.getD ((wrapI y m.h md).1 * m.w + (wrapI x m.w md).1).toNat zeroP else zeroP

theorem place_lt {a b w h l : Int} (ha : 0 ≤ a ∧ a < w) (hb : 0 ≤ b ∧ b < h) (hl : l = w * h) : 0 ≤ b * w ∧ b * w < l ∧ 0 ≤ b * w + a ∧ b * w + a < l := by
  have h1 := Int.mul_nonneg hb.1 (show 0 ≤ w by omega)
  have h2 : (b + 1) * w ≤ h * w := Int.mul_le_mul_of_nonneg_right (by omega) (by omega)
  rw [Int.add_mul, Int.one_mul, Int.mul_comm h w] at h2
  omega

theorem c_texel0 (m : Img) (x y md : Int) (hm : imgOK m) (hx : R64 x) (hy : R64 y) :
    CallsG Try.prog 45 [.agg (imgE m), i64 x, i64 y, i64 md] [] (.agg (pixE (texelI m x y md))) [] := by
  refine calls_to tok mix Try.func45 rfl rfl rfl ?_
  obtain ⟨m1, m2, m3, m4, _⟩ := hm
  have fin : ∀ {σ : SV} {q : Pix}, texelI m x y md = q → LE σ (.agg (pixE q)) → LE σ (.agg (pixE (texelI m x y md))) := fun e h => e ▸ h
  refine CallV.to _ (c_wrap x m.w md hx (by omega)) rfl ?_
  refine CallV.to _ (c_wrap y m.h md hy (by omega)) rfl ?_
  refine Br.mk (fun h1 => fin (q := zeroP) (if_neg fun h => h1 h.1) .refl) (fun h1 => ?_)
  refine Br.mk (fun h2 => fin (q := zeroP) (if_neg fun h => h2 h.2) .refl) (fun h2 => ?_)
  have h1 := Decidable.not_not.1 h1
  have h2 := Decidable.not_not.1 h2
  have hp := place_lt (wrapI_lt h1) (wrapI_lt h2) m4
  refine Ar.fit (by omega) ?_
  refine Ar.fit (by omega) ?_
  refine Ob.mk (by omega) ?_
  intro q hq
  refine fin (q := q) ?_ .refl
  unfold texelI
  rw [if_pos ⟨h1, h2⟩, List.getD_eq_getElem?_getD, hq]
  rfl

theorem c_texel0' (m : Img) (x y md : Int) (hm : imgOK m) (hx : R64 x) (hy : R64 y) :
    CallsG Try.prog 46 [.agg (imgE m), i64 x, i64 y, i64 md] [] (.agg (pixE (texelI m x y md))) [] := by
  refine calls_to tok mix Try.func46 rfl rfl rfl ?_
  obtain ⟨m1, m2, m3, m4, _⟩ := hm
  have fin : ∀ {σ : SV} {q : Pix}, texelI m x y md = q → LE σ (.agg (pixE q)) → LE σ (.agg (pixE (texelI m x y md))) := fun e h => e ▸ h
  refine CallV.to _ (c_wrap' x m.w md hx (by omega)) rfl ?_
  refine CallV.to _ (c_wrap' y m.h md hy (by omega)) rfl ?_
  refine Br.mk (fun h1 => fin (q := zeroP) (if_neg fun h => h1 h.1) .refl) (fun h1 => ?_)
  refine Br.mk (fun h2 => fin (q := zeroP) (if_neg fun h => h2 h.2) .refl) (fun h2 => ?_)
  have h1 := Decidable.not_not.1 h1
  have h2 := Decidable.not_not.1 h2
  have hp := place_lt (wrapI_lt h1) (wrapI_lt h2) m4
  refine Ar.fit (by omega) ?_
  refine Ar.fit (by omega) ?_
  refine Ob.mk (by omega) ?_
  intro q hq
  refine fin (q := q) ?_ .refl
  unfold texelI
  rw [if_pos ⟨h1, h2⟩, List.getD_eq_getElem?_getD, hq]
  rfl

def texel (m : Img) (x y md : Int) : Pix := if imgOK m then texelI m x y md else zeroP

theorem c_texel (m : Img) (x y md : Int) (hl : m.px.length ≤ 9223372036854775807) (hx : R64 x) (hy : R64 y) :
    CallsG Try.prog 21 [.agg (imgE m), i64 x, i64 y, i64 md] [] (.agg (pixE (texel m x y md))) [] := by
  refine calls_to tok mix Try.func21 rfl rfl rfl ?_
  have fin : ∀ {σ : SV} {q : Pix}, texel m x y md = q → LE σ (.agg (pixE q)) → LE σ (.agg (pixE (texel m x y md))) := fun e h => e ▸ h
  refine CallV.to _ (c_valid m hl) rfl ?_
  refine Br.mk (fun h1 => fin (q := zeroP) (if_neg h1) .refl) (fun h1 => ?_)
  have h1 := Decidable.not_not.1 h1
  refine CallV.to _ (c_texel0 m x y md h1 hx hy) rfl ?_
  exact fin (if_pos h1) .refl

theorem c_texel' (m : Img) (x y md : Int) (hx : R64 x) (hy : R64 y) :
    CallsG Try.prog 22 [.agg (imgE m), i64 x, i64 y, i64 md] [] (.agg (pixE (texel m x y md))) [] := by
  refine calls_to tok mix Try.func22 rfl rfl rfl ?_
  have fin : ∀ {σ : SV} {q : Pix}, texel m x y md = q → LE σ (.agg (pixE q)) → LE σ (.agg (pixE (texel m x y md))) := fun e h => e ▸ h
  refine CallV.to _ (c_valid' m) rfl ?_
  refine Br.mk (fun h1 => fin (q := zeroP) (if_neg h1) .refl) (fun h1 => ?_)
  have h1 := Decidable.not_not.1 h1
  refine CallV.to _ (c_texel0' m x y md h1 hx hy) rfl ?_
  exact fin (if_pos h1) .refl

theorem c_law5 (m n : Img) (x y md : Int) (hx : R64 x) (hy : R64 y) :
    CallsG Try.prog 5 [.agg (imgE m), .agg (imgE n), .agg [i64 x, i64 y, i64 md]] [] (bl true) [] := by
  refine calls_to tok mix Try.func5 rfl rfl rfl ?_
  refine CallV.to _ (c_small m) rfl ?_
  refine Br.mk (fun _ => CallV.to _ c_example rfl .refl) (fun h1 => ?_)
  refine CallV.to _ (c_small n) rfl ?_
  refine Br.mk (fun _ => CallV.to _ c_example rfl .refl) (fun h2 => ?_)
  refine Dr.mk (by decide +kernel) ?_
  refine CallV.to _ (c_valid m (by omega)) rfl ?_
  refine CallV.to _ (c_valid' m) rfl ?_
  refine Br.mk (fun _ => ?_) (fun h => absurd Iff.rfl h)
  refine CallV.to _ (c_equal m n) rfl ?_
  refine CallV.to _ (c_equal' m n) rfl ?_
  refine Br.mk (fun _ => ?_) (fun h => absurd Iff.rfl h)
  refine CallV.to _ (c_equal m m) rfl ?_
  refine Br.mk (fun _ => ?_) (fun h => absurd rfl h)
  refine CallV.to _ (c_texel m x y md (by omega) hx hy) rfl ?_
  refine CallV.to _ (c_texel' m x y md hx hy) rfl ?_
  refine Br.mk (fun _ => ?_) (fun h => absurd (pix_eq.2 rfl) h)
  refine CallV.to _ c_example rfl ?_
  exact .refl

end Go.Gs
