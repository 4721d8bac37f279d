/- The law of repeated pictures. -/
import Derived.Test.YtjfbljononkmcaaGreatImgB
namespace Go.Gs
open Go.Proofs

theorem wrap2 {i n : Int} (h : 1 ≤ n) : wrapI i n 2 = (i % n, true) := by
  unfold wrapI
  rw [if_neg (by omega)]
  by_cases e : 0 ≤ i ∧ i < n
  · rw [if_pos e, Int.emod_eq_of_lt e.1 e.2]
  · rw [if_neg e, if_neg (by decide), if_pos rfl]
theorem wrap3 {i n : Int} (h : 1 ≤ n) : wrapI i n 3 = ((if i / n % 2 = 1 then n - 1 - i % n else i % n), true) := by
  unfold wrapI
  rw [if_neg (by omega)]
  by_cases e : 0 ≤ i ∧ i < n
  · rw [if_pos e, Int.emod_eq_of_lt e.1 e.2, Int.ediv_eq_zero_of_lt e.1 e.2, if_neg (by decide)]
  · rw [if_neg e, if_neg (by decide), if_neg (by decide), if_pos rfl]
theorem wrap2_add {i n : Int} (h : 1 ≤ n) : wrapI (i + n) n 2 = wrapI i n 2 := by
  rw [wrap2 h, wrap2 h, Int.add_emod_right]
theorem wrap3_add {i n : Int} (h : 1 ≤ n) : wrapI (i + 2 * n) n 3 = wrapI i n 3 := by
  rw [wrap3 h, wrap3 h, Int.add_mul_emod_self_right, Int.add_mul_ediv_right _ _ (by omega : n ≠ 0)]
  have : (i / n + 2) % 2 = i / n % 2 := by omega
  rw [this]
theorem wrap3_sub {i n : Int} (h : 1 ≤ n) : wrapI (i - 2 * n) n 3 = wrapI i n 3 := by
  have := wrap3_add (i := i - 2 * n) h
  rw [Int.sub_add_cancel] at this
  exact this.symm
theorem texel2_add {m : Img} (hm : imgOK m) (x y : Int) : texelI m (x + m.w) (y + m.h) 2 = texelI m x y 2 := by
  unfold texelI
  rw [wrap2_add hm.1.1, wrap2_add hm.2.1.1]
theorem texel3_add {m : Img} (hm : imgOK m) (x y : Int) : texelI m (x - 2 * m.w) (y + 2 * m.h) 3 = texelI m x y 3 := by
  unfold texelI
  rw [wrap3_sub hm.1.1, wrap3_add hm.2.1.1]

theorem near_floor {x : Rat} (h : nearQ x) : flo x = x.floor ∧ -1073741824 ≤ x.floor ∧ x.floor ≤ 1073741824 := by
  have h1 : -1073741824 ≤ x.floor := Rat.le_floor_iff.2 h.1
  have h2 : x.floor ≤ 1073741824 := by
    have := Rat.floor_monotone h.2
    rwa [Rat.floor_intCast] at this
  exact ⟨by unfold flo fitI; rw [if_pos (by omega)], h1, h2⟩
theorem flo_add {x : Rat} {n : Int} (h : nearQ x) (hn : -100000 ≤ n ∧ n ≤ 100000) : flo (x + (n : Rat)) = flo x + n := by
  obtain ⟨h1, h2, h3⟩ := near_floor h
  rw [h1]
  unfold flo
  rw [Rat.floor_add_intCast]
  unfold fitI
  rw [if_pos (by omega)]
theorem fine_eq (x : Rat) (n : Int) : ((256 : Int) : Rat) * (x + (n : Rat) - Rat.divInt 1 2) = ((256 : Int) : Rat) * (x - Rat.divInt 1 2) + ((256 * n : Int) : Rat) := by
  rw [Rat.intCast_mul]; grind
theorem fine_range {x : Rat} (h : nearQ x) : -274877906944 - 128 ≤ (((256 : Int) : Rat) * (x - Rat.divInt 1 2)).floor ∧ (((256 : Int) : Rat) * (x - Rat.divInt 1 2)).floor ≤ 274877906944 := by
  have e : ((256 : Int) : Rat) * (x - Rat.divInt 1 2) = ((256 : Int) : Rat) * x + ((-128 : Int) : Rat) := by
    have : Rat.divInt 1 2 * 256 = 128 := by decide +kernel
    grind
  rw [e, Rat.floor_add_intCast]
  have h1 : -274877906944 ≤ (((256 : Int) : Rat) * x).floor := Rat.le_floor_iff.2 (by
    have := h.1
    have k : ((-274877906944 : Int) : Rat) = ((256 : Int) : Rat) * ((-1073741824 : Int) : Rat) := by rw [← Rat.intCast_mul]; rfl
    rw [k]
    exact Rat.mul_le_mul_of_nonneg_left this (by decide +kernel))
  have h2 : (((256 : Int) : Rat) * x).floor ≤ 274877906944 := by
    have k : ((256 : Int) : Rat) * x ≤ ((274877906944 : Int) : Rat) := by
      have := h.2
      have k : ((274877906944 : Int) : Rat) = ((256 : Int) : Rat) * ((1073741824 : Int) : Rat) := by rw [← Rat.intCast_mul]; rfl
      rw [k]
      exact Rat.mul_le_mul_of_nonneg_left this (by decide +kernel)
    have := Rat.floor_monotone k
    rwa [Rat.floor_intCast] at this
  omega
theorem fine_add {x : Rat} {n : Int} (h : nearQ x) (hn : -100000 ≤ n ∧ n ≤ 100000) : fineQ (x + (n : Rat)) = fineQ x + 256 * n := by
  have hr := fine_range h
  unfold fineQ flo
  rw [fine_eq, Rat.floor_add_intCast]
  unfold fitI
  rw [if_pos (by omega), if_pos (by omega)]

/-- The place lies well within the range. -/
def farQ (x : Rat) : Prop := x ≤ ((1048576 : Int) : Rat) ∧ -x ≤ ((1048576 : Int) : Rat)
theorem far_near {x : Rat} (h : farQ x) {n : Int} (hn : -100000 ≤ n ∧ n ≤ 100000) : nearQ (x + (n : Rat)) := by
  have h1 := h.1
  have h2 := h.2
  have k1 : ((-100000 : Int) : Rat) ≤ (n : Rat) := Rat.intCast_le_intCast.2 hn.1
  have k2 : (n : Rat) ≤ ((100000 : Int) : Rat) := Rat.intCast_le_intCast.2 hn.2
  have c1 : ((-1073741824 : Int) : Rat) ≤ ((-1148576 : Int) : Rat) := by decide +kernel
  have c2 : ((1148576 : Int) : Rat) ≤ ((1073741824 : Int) : Rat) := by decide +kernel
  have d1 : ((-1148576 : Int) : Rat) = -((1048576 : Int) : Rat) + ((-100000 : Int) : Rat) := by decide +kernel
  have d2 : ((1148576 : Int) : Rat) = ((1048576 : Int) : Rat) + ((100000 : Int) : Rat) := by decide +kernel
  constructor
  · grind
  · grind
theorem far_near0 {x : Rat} (h : farQ x) : nearQ x := by
  have := far_near h (n := 0) (by decide)
  rwa [show ((0 : Int) : Rat) = 0 from rfl, Rat.add_zero] at this

theorem smp_in {m : Img} {look md : Int} {x y : Rat} (h : look = 1 ∨ look = 2) (hm : imgOK m) (hx : nearQ x) (hy : nearQ y) : smp m look md x y = if look = 2 then smoothP m md x y else texelI m (flo x) (flo y) md := if_pos ⟨h, hm, hx, hy⟩
theorem smp_off {m : Img} {look md : Int} {x y : Rat} (h : ¬ (look = 1 ∨ look = 2)) : smp m look md x y = zeroP := if_neg fun k => h k.1
theorem smp_repeat {m : Img} (hm : imgOK m) (look : Int) {x y : Rat} (hx : farQ x) (hy : farQ y) : smp m look 2 (x + (m.w : Rat)) (y + (m.h : Rat)) = smp m look 2 x y := by
  have rw' : -100000 ≤ m.w ∧ m.w ≤ 100000 := by have := hm.1; omega
  have rh : -100000 ≤ m.h ∧ m.h ≤ 100000 := by have := hm.2.1; omega
  have nx := far_near0 hx
  have ny := far_near0 hy
  by_cases h : look = 1 ∨ look = 2
  · rw [smp_in h hm (far_near hx rw') (far_near hy rh), smp_in h hm nx ny]
    by_cases e : look = 2
    · rw [if_pos e, if_pos e]
      unfold smoothP
      rw [fine_add nx rw', fine_add ny rh]
      have e1 : (fineQ x + 256 * m.w) % 256 = fineQ x % 256 := by omega
      have e2 : (fineQ y + 256 * m.h) % 256 = fineQ y % 256 := by omega
      have e3 : (fineQ x + 256 * m.w) / 256 = fineQ x / 256 + m.w := by omega
      have e4 : (fineQ y + 256 * m.h) / 256 = fineQ y / 256 + m.h := by omega
      rw [e1, e2, e3, e4]
      have : px4 m 2 (fineQ x / 256 + m.w) (fineQ y / 256 + m.h) = px4 m 2 (fineQ x / 256) (fineQ y / 256) := by
        funext n
        unfold px4
        rw [Int.add_right_comm, Int.add_right_comm (fineQ y / 256), texel2_add hm]
      rw [this]
    · rw [if_neg e, if_neg e, flo_add nx rw', flo_add ny rh, texel2_add hm]
  · rw [smp_off h, smp_off h]

theorem smp_reflect {m : Img} (hm : imgOK m) (look : Int) {x y : Rat} (hx : farQ x) (hy : farQ y) :
    smp m look 3 (x - ((2 * m.w : Int) : Rat)) (y + ((2 * m.h : Int) : Rat)) = smp m look 3 x y := by
  have e0 : x - ((2 * m.w : Int) : Rat) = x + ((-(2 * m.w) : Int) : Rat) := by rw [Rat.intCast_neg, Rat.sub_eq_add_neg]
  rw [e0]
  have rw' : -100000 ≤ -(2 * m.w) ∧ -(2 * m.w) ≤ 100000 := by have := hm.1; omega
  have rh : -100000 ≤ 2 * m.h ∧ 2 * m.h ≤ 100000 := by have := hm.2.1; omega
  have nx := far_near0 hx
  have ny := far_near0 hy
  by_cases h : look = 1 ∨ look = 2
  · rw [smp_in h hm (far_near hx rw') (far_near hy rh), smp_in h hm nx ny]
    by_cases e : look = 2
    · rw [if_pos e, if_pos e]
      unfold smoothP
      rw [fine_add nx rw', fine_add ny rh]
      have e1 : (fineQ x + 256 * -(2 * m.w)) % 256 = fineQ x % 256 := by omega
      have e2 : (fineQ y + 256 * (2 * m.h)) % 256 = fineQ y % 256 := by omega
      have e3 : (fineQ x + 256 * -(2 * m.w)) / 256 = fineQ x / 256 - 2 * m.w := by omega
      have e4 : (fineQ y + 256 * (2 * m.h)) / 256 = fineQ y / 256 + 2 * m.h := by omega
      rw [e1, e2, e3, e4]
      have : px4 m 3 (fineQ x / 256 - 2 * m.w) (fineQ y / 256 + 2 * m.h) = px4 m 3 (fineQ x / 256) (fineQ y / 256) := by
        funext n
        unfold px4
        rw [show fineQ x / 256 - 2 * m.w + (n : Int) % 2 = fineQ x / 256 + (n : Int) % 2 - 2 * m.w by omega, Int.add_right_comm (fineQ y / 256), texel3_add hm]
      rw [this]
    · rw [if_neg e, if_neg e, flo_add nx rw', flo_add ny rh, ← Int.sub_eq_add_neg, texel3_add hm]
  · rw [smp_off h, smp_off h]

theorem half_near {i : Int} (h : -100000 < i ∧ i < 100000) : nearQ ((i : Rat) + Rat.divInt 1 2) := by
  have k1 : ((-100000 : Int) : Rat) ≤ (i : Rat) := Rat.intCast_le_intCast.2 (by omega)
  have k2 : (i : Rat) ≤ ((100000 : Int) : Rat) := Rat.intCast_le_intCast.2 (by omega)
  have c1 : ((-1073741824 : Int) : Rat) ≤ ((-100000 : Int) : Rat) := by decide +kernel
  have c2 : ((100000 : Int) : Rat) + Rat.divInt 1 2 ≤ ((1073741824 : Int) : Rat) := by decide +kernel
  have c3 : (0 : Rat) ≤ Rat.divInt 1 2 := by decide +kernel
  constructor
  · grind
  · grind
theorem half_floor (i : Int) : ((i : Rat) + Rat.divInt 1 2).floor = i := by
  rw [Rat.add_comm, Rat.floor_add_intCast, show (Rat.divInt 1 2).floor = 0 by decide +kernel, Int.zero_add]
theorem half_fine {i : Int} (h : -100000 < i ∧ i < 100000) : fineQ ((i : Rat) + Rat.divInt 1 2) = 256 * i := by
  unfold fineQ flo
  rw [Rat.add_sub_cancel, ← Rat.intCast_mul, Rat.floor_intCast]
  unfold fitI
  rw [if_pos (by omega)]
theorem smp_half {m : Img} (hm : imgOK m) (h8 : ∀ q ∈ m.px, P8 q) {look : Int} (hl : look = 1 ∨ look = 2) (md : Int) {i k : Int} (hi : -100000 < i ∧ i < 100000) (hk : -100000 < k ∧ k < 100000) :
    smp m look md ((i : Rat) + Rat.divInt 1 2) ((k : Rat) + Rat.divInt 1 2) = texelI m i k md := by
  unfold smp
  rw [if_pos ⟨hl, hm, half_near hi, half_near hk⟩]
  by_cases e : look = 2
  · rw [if_pos e]
    unfold smoothP
    rw [half_fine hi, half_fine hk]
    have e1 : 256 * i % 256 = 0 := by omega
    have e2 : 256 * k % 256 = 0 := by omega
    have e3 : 256 * i / 256 = i := by omega
    have e4 : 256 * k / 256 = k := by omega
    rw [e1, e2, e3, e4]
    have e5 : texelI m i k md = px4 m md i k 0 := by unfold px4; simp
    have h8' := texelI_P8 h8 i k md
    rw [e5] at h8' ⊢
    generalize px4 m md i k = Q at *
    have one : ∀ V : Nat → Int, R8 (V 0) → bR (accW (wgt 0 0) V 4) = V 0 := fun V hV => by
      have ea : accW (wgt 0 0) V 4 = 65536 * V 0 := by
        show 0 + (256 - 0) * (256 - 0) * V 0 + 0 * (256 - 0) * V 1 + (256 - 0) * 0 * V 2 + 0 * 0 * V 3 = _
        omega
      rw [ea]
      unfold R8 at hV
      unfold bR rdiv
      rw [if_pos (by omega), show Int.natAbs 65536 = 65536 from rfl]
      omega
    dsimp only [sumP]
    rw [one _ h8'.1, one _ h8'.2.1, one _ h8'.2.2.1, one _ h8'.2.2.2]
  · rw [if_neg e]
    have a1 := near_floor (half_near hi)
    have a2 := near_floor (half_near hk)
    rw [a1.1, a2.1, half_floor, half_floor]

end Go.Gs
/- The law of repeated pictures: the walk. -/
namespace Go.Gs
open Go.Proofs

set_option maxRecDepth 100000 in
set_option maxHeartbeats 4000000 in
theorem c_lawRepeat (m : Img) (look md : Int) (a b : BR) (i0 k0 : Int) (h8 : ∀ q ∈ m.px, P8 q) :
    CallsG Tryz.prog 4 [.agg (imgE m), .agg ([i64 look, i64 md] ++ (brE a ++ brE b)), .agg [i64 i0, i64 k0]] [] (bl true) [] := by
  refine calls_to tok mix Tryz.func4 rfl rfl rfl ?_
  refine CallV.to _ (c_small m) rfl ?_
  refine Br.mk (fun _ => CallV.to _ c_example rfl .refl) (fun h1 => ?_)
  have h1 := Decidable.not_not.1 h1
  refine CallV.to _ (c_short a) rfl ?_
  refine Br.mk (fun _ => CallV.to _ c_example rfl .refl) (fun h2 => ?_)
  have h2 := Decidable.not_not.1 h2
  refine CallV.to _ (c_short b) rfl ?_
  refine Br.mk (fun _ => CallV.to _ c_example rfl .refl) (fun h3 => ?_)
  have h3 := Decidable.not_not.1 h3
  refine CallV.to _ (c_valid' m) rfl ?_
  refine Br.mk (fun _ => CallV.to _ c_example rfl .refl) (fun hm => ?_)
  have hm : imgOK m := Decidable.not_not.1 hm
  have l0 := int_len (show R64 1048576 by decide)
  have la := qlen_v a
  have lb := qlen_v b
  have na : (ofQ (-a.v)).len ≤ 30 := by rw [ofQ_len, qlen_neg]; omega
  have nb : (ofQ (-b.v)).len ≤ 30 := by rw [ofQ_len, qlen_neg]; omega
  refine CallV.to _ (r3_fromInt 1048576 (by decide)) rfl ?_
  refine Dr.mk (by decide +kernel) ?_
  refine CallV.to _ (r3_cmp a (ofQ ((1048576 : Int) : Rat)) (by omega) (by omega)) rfl ?_
  rw [ofQ_v]
  refine Br.mk (fun _ => CallV.to _ c_example rfl .refl) (fun f1 => ?_)
  refine CallV.to _ (r3_cmp b (ofQ ((1048576 : Int) : Rat)) (by omega) (by omega)) rfl ?_
  rw [ofQ_v]
  refine Br.mk (fun _ => CallV.to _ c_example rfl .refl) (fun f2 => ?_)
  refine CallV.to _ (r3_neg a (by omega)) rfl ?_
  refine CallV.to _ (r3_cmp (ofQ ((1048576 : Int) : Rat)) (ofQ (-a.v)) (by omega) (by omega)) rfl ?_
  rw [ofQ_v, ofQ_v]
  refine Br.mk (fun _ => CallV.to _ c_example rfl .refl) (fun f3 => ?_)
  refine CallV.to _ (r3_neg b (by omega)) rfl ?_
  refine CallV.to _ (r3_cmp (ofQ ((1048576 : Int) : Rat)) (ofQ (-b.v)) (by omega) (by omega)) rfl ?_
  rw [ofQ_v, ofQ_v]
  refine Br.mk (fun _ => CallV.to _ c_example rfl .refl) (fun f4 => ?_)
  have fa : farQ a.v := ⟨cmpQ_le.1 (by omega), cmpQ_ge.1 (by omega)⟩
  have fb : farQ b.v := ⟨cmpQ_le.1 (by omega), cmpQ_ge.1 (by omega)⟩
  have hw := hm.1
  have hh := hm.2.1
  have rw' : R64 m.w := by unfold R64; omega
  have rh : R64 m.h := by unfold R64; omega
  have rw2 : R64 (2 * m.w) := by unfold R64; omega
  have rh2 : R64 (2 * m.h) := by unfold R64; omega
  have lw := int_len rw'
  have lh := int_len rh
  have lw2 := int_len rw2
  have lh2 := int_len rh2
  have qa := qlen_add a.v (m.w : Rat)
  have qb := qlen_add b.v (m.h : Rat)
  have qa2 := qlen_sub a.v ((2 * m.w : Int) : Rat)
  have qb2 := qlen_add b.v ((2 * m.h : Int) : Rat)
  rw [ofQ_len] at lw lh lw2 lh2
  refine Dr.mk (by decide +kernel) ?_
  refine CallV.to _ (r3_fromInt m.w rw') rfl ?_
  refine CallV.to _ (r3_fromInt m.h rh) rfl ?_
  refine Dr.mk (by decide +kernel) ?_
  refine CallV.to _ (c_sample m look 2 a b (by omega) h8 (by omega) (by omega)) rfl ?_
  refine CallV.to _ (r3_add a (ofQ (m.w : Rat)) (by omega) (by rw [ofQ_len]; omega)) rfl ?_
  refine CallV.to _ (r3_add b (ofQ (m.h : Rat)) (by omega) (by rw [ofQ_len]; omega)) rfl ?_
  rw [ofQ_v, ofQ_v]
  refine CallV.to _ (c_sample m look 2 (ofQ (a.v + (m.w : Rat))) (ofQ (b.v + (m.h : Rat))) (by omega) h8 (by rw [ofQ_len]; omega) (by rw [ofQ_len]; omega)) rfl ?_
  rw [ofQ_v, ofQ_v, smp_repeat hm look fa fb]
  refine Br.mk (fun k => absurd ⟨rfl, rfl, rfl, rfl, trivial⟩ k) (fun _ => ?_)
  refine Dr.mk (by decide +kernel) ?_
  refine Ar.fit (by omega) ?_
  refine CallV.to _ (r3_fromInt (2 * m.w) rw2) rfl ?_
  refine Ar.fit (by omega) ?_
  refine CallV.to _ (r3_fromInt (2 * m.h) rh2) rfl ?_
  refine Dr.mk (by decide +kernel) ?_
  refine CallV.to _ (c_sample m look 3 a b (by omega) h8 (by omega) (by omega)) rfl ?_
  refine CallV.to _ (r3_sub a (ofQ ((2 * m.w : Int) : Rat)) (by omega) (by rw [ofQ_len]; omega)) rfl ?_
  refine CallV.to _ (r3_add b (ofQ ((2 * m.h : Int) : Rat)) (by omega) (by rw [ofQ_len]; omega)) rfl ?_
  rw [ofQ_v, ofQ_v]
  refine CallV.to _ (c_sample m look 3 (ofQ (a.v - ((2 * m.w : Int) : Rat))) (ofQ (b.v + ((2 * m.h : Int) : Rat))) (by omega) h8 (by rw [ofQ_len]; omega) (by rw [ofQ_len]; omega)) rfl ?_
  rw [ofQ_v, ofQ_v, smp_reflect hm look fa fb]
  refine Br.mk (fun k => absurd ⟨rfl, rfl, rfl, rfl, trivial⟩ k) (fun _ => ?_)
  refine CallV.to _ (r3_fromints 1 2 (by decide) (by decide) (by decide)) rfl ?_
  refine Dr.mk (by decide +kernel) ?_
  refine Dv.any (by decide) ?_
  refine Dv.any (by decide) ?_
  have ti := tdm (m := i0) (n := 100000) (by decide)
  have tk := tdm (m := k0) (n := 100000) (by decide)
  have bi : -100000 < i0.tmod 100000 ∧ i0.tmod 100000 < 100000 := by
    have := Int.emod_lt_of_pos i0 (show (0 : Int) < 100000 by decide)
    have := Int.emod_nonneg i0 (show (100000 : Int) ≠ 0 by decide)
    omega
  have bk : -100000 < k0.tmod 100000 ∧ k0.tmod 100000 < 100000 := by
    have := Int.emod_lt_of_pos k0 (show (0 : Int) < 100000 by decide)
    have := Int.emod_nonneg k0 (show (100000 : Int) ≠ 0 by decide)
    omega
  clear ti tk
  generalize i0.tmod 100000 = i at *
  generalize k0.tmod 100000 = k at *
  have ri : R64 i := by unfold R64; omega
  have rk : R64 k := by unfold R64; omega
  have li := int_len ri
  have lk := int_len rk
  rw [ofQ_len] at li lk
  have l2 := half_len
  have l4 : qlen (Rat.divInt 1 2) ≤ 1 := half_len
  have qi := qlen_add (i : Rat) (Rat.divInt 1 2)
  have qk := qlen_add (k : Rat) (Rat.divInt 1 2)
  refine Dr.mk (by decide +kernel) ?_
  refine CallV.to _ (r3_fromInt i ri) rfl ?_
  refine CallV.to _ (r3_add (ofQ (i : Rat)) (ofQ (Rat.divInt 1 2)) (by rw [ofQ_len]; omega) (by omega)) rfl ?_
  refine CallV.to _ (r3_fromInt k rk) rfl ?_
  refine CallV.to _ (r3_add (ofQ (k : Rat)) (ofQ (Rat.divInt 1 2)) (by rw [ofQ_len]; omega) (by omega)) rfl ?_
  rw [ofQ_v, ofQ_v, ofQ_v]
  refine CallV.to _ (c_texel m i k md (by omega) ri rk) rfl ?_
  rw [show texel m i k md = texelI m i k md from if_pos hm]
  refine Dr.mk (by decide +kernel) ?_
  refine CallV.to _ (c_sample m 1 md (ofQ ((i : Rat) + Rat.divInt 1 2)) (ofQ ((k : Rat) + Rat.divInt 1 2)) (by omega) h8 (by rw [ofQ_len]; omega) (by rw [ofQ_len]; omega)) rfl ?_
  rw [ofQ_v, ofQ_v, smp_half hm h8 (.inl rfl) md bi bk]
  refine Br.mk (fun _ => ?_) (fun k => absurd ⟨rfl, rfl, rfl, rfl, trivial⟩ k)
  refine CallV.to _ (c_sample m 2 md (ofQ ((i : Rat) + Rat.divInt 1 2)) (ofQ ((k : Rat) + Rat.divInt 1 2)) (by omega) h8 (by rw [ofQ_len]; omega) (by rw [ofQ_len]; omega)) rfl ?_
  rw [ofQ_v, ofQ_v, smp_half hm h8 (.inr rfl) md bi bk]
  refine Br.mk (fun _ => ?_) (fun k => absurd ⟨rfl, rfl, rfl, rfl, trivial⟩ k)
  refine CallV.to _ c_example rfl ?_
  exact .refl

end Go.Gs
