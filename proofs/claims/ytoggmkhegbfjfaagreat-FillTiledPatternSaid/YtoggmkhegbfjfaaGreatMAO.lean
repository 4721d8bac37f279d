/- Pictures that may be, the other text; pictures that are the same; texels. -/
import Derived.Test.YtoggmkhegbfjfaaGreatMAN
import Derived.Test.YtoggmkhegbfjfaaGreatMAI
import Derived.Test.YtoggmkhegbfjfaaGreatMAL
import Derived.Test.YtoggmkhegbfjfaaGreatMAM
namespace Go.Gs
open Go.Proofs

theorem c_size (w h : Int) : CallsG Tryz.prog 72 [i64 w, i64 h] [] (pr ((1 ≤ w ∧ w ≤ 4096) ∧ (1 ≤ h ∧ h ≤ 4096) ∧ w * h ≤ 65536)) [] := by
  refine calls_to tok mix Tryz.func72 rfl rfl rfl ?_
  refine Br.mk (fun h1 => ?_) (fun h1 => LE_false (by omega))
  refine Br.mk (fun h2 => ?_) (fun h2 => LE_false (by omega))
  refine Br.mk (fun h3 => ?_) (fun h3 => LE_false (by omega))
  refine Br.mk (fun h4 => ?_) (fun h4 => LE_false (by omega))
  have hm := mul_r (show 0 ≤ w by omega) h2 (show 0 ≤ h by omega) h4
  refine Ar.fit (by omega) ?_
  exact LE_pr ⟨fun h => ⟨⟨h1, h2⟩, ⟨h3, h4⟩, h⟩, fun h => h.2.2⟩

theorem c_pvalid' (p : Pix) : CallsG Tryz.prog 60 [.agg (pixE p)] [] (pr (pxOK p)) [] := by
  refine calls_to tok mix Tryz.func60 rfl rfl rfl ?_
  refine Br.mk (fun h1 => ?_) (fun h1 => LE_false (fun h => h1 h.1))
  refine Br.mk (fun h2 => ?_) (fun h2 => LE_false (fun h => h2 h.2.1))
  exact LE_pr ⟨fun h => ⟨h1, h2, h⟩, fun h => h.2.2⟩

theorem c_valid' (m : Img) : CallsG Tryz.prog 32 [.agg (imgE m)] [] (pr (imgOK m)) [] := by
  refine calls_to tok mix Tryz.func32 rfl rfl rfl ?_
  refine CallV.to _ (c_size m.w m.h) rfl ?_
  refine Br.mk (fun h1 => LE_false (fun h => h1 ⟨h.1, h.2.1, h.2.2.1⟩)) (fun h1 => ?_)
  have h1 := Decidable.not_not.1 h1
  have hm := mul_r (show 0 ≤ m.w by omega) h1.1.2 (show 0 ≤ m.h by omega) h1.2.1.2
  intro hl0
  refine Ar.fit (by omega) ?_
  refine Br.mk (fun h4 => LE_false (fun h => h4 h.2.2.2.1)) (fun h4 => ?_)
  have h4 := Decidable.not_not.1 h4
  refine ⟨Int, fun i => ⟨[(3, i64 i), (1, .loc 0 0)], [(0, .box 36 (imgE m))], 1, 35, 0⟩, fun i => 0 ≤ i ∧ i ≤ m.px.length ∧ ∀ (j : Nat) q, (j : Int) < i → m.px[j]? = some q → pxOK q, fun i => ((m.px.length : Int) - i).toNat, 0, ?_, ?_, ?_⟩
  · exact ⟨by omega, by omega, fun j q hj => by omega⟩
  · exact sub_of [(0, some 0)] rfl rfl rfl ⟨rfl, rfl, trivial⟩ ⟨rfl, trivial⟩
  rintro i ⟨g1, g2, g3⟩
  intro hl1
  refine Br.mk (fun g4 => ?_) (fun g4 => ?_)
  · refine Ob.mk (by omega) ?_
    intro x hx
    refine CallV.to _ (c_pvalid' x) rfl ?_
    refine Br.mk (fun g5 => ?_) (fun g5 => ?_)
    · exact LE_false fun h => g5 (h.2.2.2.2 x (List.mem_of_getElem? hx))
    · refine Ar.fit (by omega) ?_
      refine ⟨i + 1, ⟨by omega, by omega, fun j q hj hq => ?_⟩, sub_of [(0, some 0)] rfl rfl rfl ⟨rfl, rfl, trivial⟩ ⟨rfl, trivial⟩, by dsimp only; omega⟩
      by_cases e : j = i.toNat
      · subst e; rw [hx] at hq; cases hq; exact Decidable.not_not.1 g5
      · exact g3 j q (by omega) hq
  · refine LE_true ⟨h1.1, h1.2.1, h1.2.2, h4, fun p hp => ?_⟩
    obtain ⟨j, hj, he⟩ := List.getElem_of_mem hp
    exact g3 j p (by omega) (by rw [← he]; exact List.getElem?_eq_getElem hj)

theorem pix_eq {p q : Pix} : (p.r = q.r ∧ p.g = q.g ∧ p.b = q.b ∧ p.a = q.a ∧ True) ↔ p = q := by
  cases p; cases q; simp

theorem list_eq {xs ys : List Pix} {i : Int} (hl : (xs.length : Int) = ys.length) (hi : ¬ i < xs.length) (h : ∀ j : Nat, (j : Int) < i → xs[j]? = ys[j]?) : xs = ys := by
  refine List.ext_getElem? fun j => ?_
  by_cases hj : (j : Int) < i
  · exact h j hj
  · rw [List.getElem?_eq_none (by omega), List.getElem?_eq_none (by omega)]

theorem c_seq (xs ys : List Pix) : CallsG Tryz.prog 241 [.sl pixE xs, .sl pixE ys] [] (pr (xs = ys)) [] := by
  refine calls_to tok mix Tryz.func241 rfl rfl rfl ?_
  intro hl1 hl2
  refine Br.mk (fun h1 => LE_false fun e => h1 (by rw [e])) (fun h1 => ?_)
  have h1 := Decidable.not_not.1 h1
  intro hl3
  refine ⟨Int, fun i => ⟨[(13, i64 i), (12, i64 xs.length), (0, .sl pixE xs), (1, .sl pixE ys)], [], 0, 26, 0⟩, fun i => 0 ≤ i ∧ i ≤ xs.length ∧ ∀ j : Nat, (j : Int) < i → xs[j]? = ys[j]?, fun i => ((xs.length : Int) - i).toNat, 0, ?_, ?_, ?_⟩
  · exact ⟨by omega, by omega, fun j hj => by omega⟩
  · exact sub_of [] rfl rfl rfl ⟨rfl, rfl, rfl, rfl, trivial⟩ trivial
  rintro i ⟨h4, h5, h6⟩
  refine Br.mk (fun h7 => ?_) (fun h7 => ?_)
  · refine Dr.mk (by decide +kernel) ?_
    refine Ob.mk (by omega) ?_
    intro x hx
    refine Ob.mk (by omega) ?_
    intro y hy
    refine Br.mk (fun h8 => ?_) (fun h8 => ?_)
    · refine LE_false fun e => h8 (pix_eq.2 ?_)
      subst e
      rw [hx] at hy; exact Option.some.inj hy
    · refine Ar.fit (by omega) ?_
      refine ⟨i + 1, ⟨by omega, by omega, fun j hj => ?_⟩, sub_of [] rfl rfl rfl ⟨rfl, rfl, rfl, rfl, trivial⟩ trivial, by dsimp only; omega⟩
      by_cases e : j = i.toNat
      · subst e; rw [hx, hy, pix_eq.1 (Decidable.not_not.1 h8)]
      · exact h6 j (by omega)
  · exact LE_true (list_eq h1 h7 h6)

theorem c_equal (m n : Img) : CallsG Tryz.prog 177 [.agg (imgE m), .agg (imgE n)] [] (pr (m = n)) [] := by
  refine calls_to tok mix Tryz.func177 rfl rfl rfl ?_
  refine Br.mk (fun h1 => ?_) (fun h1 => LE_false fun e => h1 (by rw [e]))
  refine Br.mk (fun h2 => ?_) (fun h2 => LE_false fun e => h2 (by rw [e]))
  refine CallV.to _ (c_seq m.px n.px) rfl ?_
  refine LE_pr ⟨fun h => ?_, fun h => by rw [h]⟩
  cases m; cases n; simp_all

end Go.Gs
/- Texels; the third law. -/
namespace Go.Gs
open Go.Proofs

theorem wrapI_lt {i n m : Int} (h : (wrapI i n m).2 = true) : 0 ≤ (wrapI i n m).1 ∧ (wrapI i n m).1 < n := by
  unfold wrapI at h ⊢
  by_cases h1 : n < 1
  · simp [h1] at h
  have hem := Int.emod_nonneg i (show n ≠ 0 by omega)
  have hem2 := Int.emod_lt_of_pos i (show 0 < n by omega)
  rw [if_neg h1] at h ⊢
  split
  · rename_i h2; exact ⟨h2.1, h2.2⟩
  · split
    · simp only [clampI]; split <;> (try split) <;> omega
    · split
      · exact ⟨hem, hem2⟩
      · split
        · dsimp only; split <;> omega
        · simp_all

def zeroP : Pix := ⟨0, 0, 0, 0⟩
def texelI (m : Img) (x y md : Int) : Pix := if (wrapI x m.w md).2 = true ∧ (wrapI y m.h md).2 = true then m.px.getD ((wrapI y m.h md).1 * m.w + (wrapI x m.w md).1).toNat zeroP else zeroP

theorem place_lt {a b w h l : Int} (ha : 0 ≤ a ∧ a < w) (hb : 0 ≤ b ∧ b < h) (hl : l = w * h) : 0 ≤ b * w ∧ b * w < l ∧ 0 ≤ b * w + a ∧ b * w + a < l := by
  have h1 := Int.mul_nonneg hb.1 (show 0 ≤ w by omega)
  have h2 : (b + 1) * w ≤ h * w := Int.mul_le_mul_of_nonneg_right (by omega) (by omega)
  rw [Int.add_mul, Int.one_mul, Int.mul_comm h w] at h2
  omega

theorem c_texel0 (m : Img) (x y md : Int) (hm : imgOK m) (hx : R64 x) (hy : R64 y) :
    CallsG Tryz.prog 347 [.agg (imgE m), i64 x, i64 y, i64 md] [] (.agg (pixE (texelI m x y md))) [] := by
  refine calls_to tok mix Tryz.func347 rfl rfl rfl ?_
  obtain ⟨m1, m2, m3, m4, _⟩ := hm
  have fin : ∀ {σ : SV} {q : Pix}, texelI m x y md = q → LE σ (.agg (pixE q)) → LE σ (.agg (pixE (texelI m x y md))) := fun e h => e ▸ h
  refine CallV.to _ (c_wrap x m.w md hx (by omega)) rfl ?_
  refine CallV.to _ (c_wrap y m.h md hy (by omega)) rfl ?_
  refine Br.mk (fun h1 => fin (q := zeroP) (if_neg fun h => h1 h.1) .refl) (fun h1 => ?_)
  refine Br.mk (fun h2 => fin (q := zeroP) (if_neg fun h => h2 h.2) .refl) (fun h2 => ?_)
  have h1 := Decidable.not_not.1 h1
  have h2 := Decidable.not_not.1 h2
  have hp := place_lt (wrapI_lt h1) (wrapI_lt h2) m4
  refine Ar.fit (by omega) ?_
  refine Ar.fit (by omega) ?_
  refine Ob.mk (by omega) ?_
  intro q hq
  refine fin (q := q) ?_ .refl
  unfold texelI
  rw [if_pos ⟨h1, h2⟩, List.getD_eq_getElem?_getD, hq]
  rfl

theorem c_texel0' (m : Img) (x y md : Int) (hm : imgOK m) (hx : R64 x) (hy : R64 y) :
    CallsG Tryz.prog 221 [.agg (imgE m), i64 x, i64 y, i64 md] [] (.agg (pixE (texelI m x y md))) [] := by
  refine calls_to tok mix Tryz.func221 rfl rfl rfl ?_
  obtain ⟨m1, m2, m3, m4, _⟩ := hm
  have fin : ∀ {σ : SV} {q : Pix}, texelI m x y md = q → LE σ (.agg (pixE q)) → LE σ (.agg (pixE (texelI m x y md))) := fun e h => e ▸ h
  refine CallV.to _ (c_wrap' x m.w md hx (by omega)) rfl ?_
  refine CallV.to _ (c_wrap' y m.h md hy (by omega)) rfl ?_
  refine Br.mk (fun h1 => fin (q := zeroP) (if_neg fun h => h1 h.1) .refl) (fun h1 => ?_)
  refine Br.mk (fun h2 => fin (q := zeroP) (if_neg fun h => h2 h.2) .refl) (fun h2 => ?_)
  have h1 := Decidable.not_not.1 h1
  have h2 := Decidable.not_not.1 h2
  have hp := place_lt (wrapI_lt h1) (wrapI_lt h2) m4
  refine Ar.fit (by omega) ?_
  refine Ar.fit (by omega) ?_
  refine Ob.mk (by omega) ?_
  intro q hq
  refine fin (q := q) ?_ .refl
  unfold texelI
  rw [if_pos ⟨h1, h2⟩, List.getD_eq_getElem?_getD, hq]
  rfl

def texel (m : Img) (x y md : Int) : Pix := if imgOK m then texelI m x y md else zeroP

end Go.Gs
/- More of numbers: the low bits of an integer. -/
namespace Go.Gs

theorem and_low {q : Int} (k : Nat) (hk : k ≤ 32) : bitsK .and .i64 q (2 ^ k - 1) = q % 2 ^ k := by
  have hp : (2 : Int) ^ k ≤ 2 ^ 32 := by
    have := Nat.pow_le_pow_right (show 0 < 2 by decide) hk
    exact_mod_cast this
  have hp0 : (1 : Int) ≤ 2 ^ k := by
    have := Nat.one_le_two_pow (n := k)
    exact_mod_cast this
  have hpn : (2 : Nat) ^ k ≤ 2 ^ 32 := Nat.pow_le_pow_right (by decide) hk
  have hpn0 := Nat.one_le_two_pow (n := k)
  have hc : ((2 ^ k : Nat) : Int) = (2 : Int) ^ k := by exact_mod_cast rfl
  have e : (BitVec.ofInt 64 q &&& BitVec.ofInt 64 (2 ^ k - 1)).toNat = (q % 2 ^ k).toNat := by
    rw [BitVec.toNat_and]
    have h1 : (BitVec.ofInt 64 ((2 : Int) ^ k - 1)).toNat = 2 ^ k - 1 := by
      rw [BitVec.toNat_ofInt]; omega
    rw [h1, Nat.and_two_pow_sub_one_eq_mod, BitVec.toNat_ofInt]
    have hd : ((2 : Int) ^ k) ∣ (2 : Int) ^ 64 := ⟨2 ^ (64 - k), by rw [← Int.pow_add]; congr 1; omega⟩
    have h2 : (q % (2 : Int) ^ 64) % 2 ^ k = q % 2 ^ k := Int.emod_emod_of_dvd q hd
    have h3 := Int.emod_nonneg q (show (2 : Int) ^ 64 ≠ 0 by decide)
    have h4 := Int.emod_nonneg q (show (2 : Int) ^ k ≠ 0 by omega)
    have h5 : (((q % (2 : Int) ^ 64).toNat % 2 ^ k : Nat) : Int) = q % 2 ^ k := by
      rw [Int.natCast_emod, hc, Int.toNat_of_nonneg h3, h2]
    show (q % ((2 ^ 64 : Nat) : Int)).toNat % 2 ^ k = _
    have h6 : ((2 ^ 64 : Nat) : Int) = (2 : Int) ^ 64 := by decide
    rw [h6]
    omega
  show IntKind.i64.wrap ((BitVec.ofInt 64 q &&& BitVec.ofInt 64 (2 ^ k - 1)).toNat : Nat) = _
  rw [e]
  have h4 := Int.emod_nonneg q (show (2 : Int) ^ k ≠ 0 by omega)
  have h5 := Int.emod_lt_of_pos q (show (0 : Int) < 2 ^ k by omega)
  rw [Int.toNat_of_nonneg h4]
  generalize q % 2 ^ k = z at *
  simp only [IntKind.wrap, IntKind.bits, IntKind.signed]
  simp
  omega

end Go.Gs
/- Samples of a picture, the program's. -/
namespace Go.Gs
open Go.Proofs

theorem and_255 {q : Int} : bitsK .and .i64 q 255 = q % 256 := and_low (q := q) 8 (by decide)
theorem int_len {n : Int} (h : R64 n) : (ofQ (n : Rat)).len ≤ 2 := by
  have h1 := qlen_int n
  have h2 := zlen_i64 h
  rw [ofQ_len]; omega
theorem floor_len (q : Rat) : zlen q.floor ≤ qlen q := Nat.le_trans (zlen_mono (by
    rw [Rat.floor_def]
    exact Int.natAbs_ediv_le_natAbs _ _)) (qlen_num q)

def nearQ (x : Rat) : Prop := ((-1073741824 : Int) : Rat) ≤ x ∧ x ≤ ((1073741824 : Int) : Rat)
instance (x : Rat) : Decidable (nearQ x) := inferInstanceAs (Decidable (_ ∧ _))

theorem c_inear (a : BR) (ha : a.len ≤ 10000000) : CallsG Tryz.prog 342 [.agg (brE a)] [] (pr (nearQ a.v)) [] := by
  have l1 := int_len (show R64 (-1073741824) by decide)
  have l2 := int_len (show R64 1073741824 by decide)
  refine calls_to tok mix Tryz.func342 rfl rfl rfl ?_
  refine Dr.mk (by decide +kernel) ?_
  refine CallV.to _ (q_fromint (-1073741824) (by decide)) rfl ?_
  refine CallV.to _ (q_cmp a (ofQ ((-1073741824 : Int) : Rat)) (by omega) (by omega)) rfl ?_
  rw [ofQ_v]
  refine Br.mk (fun h1 => ?_) (fun h1 => ?_)
  · refine CallV.to _ (q_fromint 1073741824 (by decide)) rfl ?_
    refine CallV.to _ (q_cmp a (ofQ ((1073741824 : Int) : Rat)) (by omega) (by omega)) rfl ?_
    rw [ofQ_v]
    exact LE_pr ⟨fun h2 => ⟨cmpQ_ge.1 h1, cmpQ_le.1 h2⟩, fun h => cmpQ_le.2 h.2⟩
  · exact LE_false fun h => h1 (cmpQ_ge.2 h.1)

/-- A coordinate rounded down. -/
def flo (x : Rat) : Int := fitI x.floor
theorem c_floor (a : BR) (ha : a.len ≤ 10000000) : CallsG Tryz.prog 346 [.agg (brE a)] [] (i64 (flo a.v)) [] := by
  have l1 := qlen_v a
  have l2 := floor_len a.v
  refine calls_to tok mix Tryz.func346 rfl rfl rfl ?_
  refine CallV.to _ (q_floor a (by omega)) rfl ?_
  refine CallV.to _ (z_toint (ofZ a.v.floor) (by rw [ofZ_len]; omega)) rfl ?_
  rw [ofZ_v]
  exact .refl
theorem fit_r64 (z : Int) : R64 (fitI z) := by
  unfold fitI R64; split <;> omega
theorem flo_r64 (x : Rat) : R64 (flo x) := fit_r64 _

theorem c_inearest (m : Img) (md : Int) (a b : BR) (hm : imgOK m) (ha : a.len ≤ 10000000) (hb : b.len ≤ 10000000) :
    CallsG Tryz.prog 344 [.agg (imgE m), i64 md, .agg (brE a), .agg (brE b)] [] (.agg (pixE (texelI m (flo a.v) (flo b.v) md))) [] := by
  refine calls_to tok mix Tryz.func344 rfl rfl rfl ?_
  refine Dr.mk (by decide +kernel) ?_
  refine CallV.to _ (c_floor a ha) rfl ?_
  refine CallV.to _ (c_floor b hb) rfl ?_
  refine CallV.to _ (c_texel0 m (flo a.v) (flo b.v) md hm (flo_r64 _) (flo_r64 _)) rfl ?_
  exact .refl

/-- 256 times the distance from the middle of the first pixel, rounded down. -/
def fineQ (x : Rat) : Int := flo (((256 : Int) : Rat) * (x - Rat.divInt 1 2))
theorem half_len : (ofQ (Rat.divInt 1 2)).len ≤ 1 := by decide +kernel
theorem c_smooth1 (a : BR) (ha : a.len ≤ 1000000) :
    CallsG Tryz.prog 345 [.agg (brE a), .ptr (brE (ofQ (Rat.divInt 1 2)))] [] (.tup [i64 (fineQ a.v / 256), i64 (fineQ a.v % 256)]) [] := by
  have l1 := int_len (show R64 256 by decide)
  have l2 := half_len
  have l3 := qlen_v a
  have l4 : qlen (Rat.divInt 1 2) ≤ 1 := half_len
  have l5 := qlen_sub a.v (Rat.divInt 1 2)
  have l6 : qlen ((256 : Int) : Rat) ≤ 2 := l1
  have l7 := qlen_mul ((256 : Int) : Rat) (a.v - Rat.divInt 1 2)
  refine calls_to tok mix Tryz.func345 rfl rfl rfl ?_
  refine Dr.mk (by decide +kernel) ?_
  refine CallV.to _ (q_fromint 256 (by decide)) rfl ?_
  refine CallV.to _ (q_sub a (ofQ (Rat.divInt 1 2)) (by omega) (by omega)) rfl ?_
  rw [ofQ_v]
  refine CallV.to _ (q_mul (ofQ ((256 : Int) : Rat)) (ofQ (a.v - Rat.divInt 1 2)) (by omega) (by rw [ofQ_len]; omega)) rfl ?_
  rw [ofQ_v, ofQ_v]
  refine CallV.to _ (c_floor (ofQ (((256 : Int) : Rat) * (a.v - Rat.divInt 1 2))) (by rw [ofQ_len]; omega)) rfl ?_
  rw [ofQ_v]
  refine Ob.mk (by decide) ?_
  refine ⟨_, and_255.symm, ?_⟩
  exact .refl

/-- The sums of four weighted numbers. -/
def accW (W V : Nat → Int) : Nat → Int
  | 0 => 0
  | n + 1 => accW W V n + W n * V n
def bR (s : Int) : Int := rdiv s 65536
theorem bR_range {s : Int} (h : 0 ≤ s ∧ s ≤ 16711680) : 0 ≤ bR s ∧ bR s ≤ 255 := by
  unfold bR rdiv
  rw [if_pos (by omega), show Int.natAbs 65536 = 65536 from rfl]
  omega
theorem c_by (s0 s1 s2 s3 s : Int) (c : Nat) (hc : [s0, s1, s2, s3][c]? = some s) (hs : 0 ≤ s ∧ s ≤ 16711680) : CallsG Tryz.prog 348 [i64 c, .ptr [i64 s0, i64 s1, i64 s2, i64 s3]] [] (u8 (bR s)) [] := by
  have hr := bR_range hs
  have fin : fitI (rdiv s 65536) = bR s := by
    unfold bR at *; unfold fitI; rw [if_pos (by omega)]
  have hc4 : c < 4 := (List.getElem?_eq_some_iff.1 hc).1
  have e : c = 0 ∨ c = 1 ∨ c = 2 ∨ c = 3 := by omega
  rcases e with rfl | rfl | rfl | rfl
  · cases hc
    refine calls_to tok mix Tryz.func348 rfl rfl rfl ?_
    refine CallV.to _ (c_divround s0 65536 (by unfold R64; omega) (by decide)) rfl ?_
    rw [fin]
    refine Ar.fit (by omega) ?_
    exact .refl
  · cases hc
    refine calls_to tok mix Tryz.func348 rfl rfl rfl ?_
    refine CallV.to _ (c_divround s1 65536 (by unfold R64; omega) (by decide)) rfl ?_
    rw [fin]
    refine Ar.fit (by omega) ?_
    exact .refl
  · cases hc
    refine calls_to tok mix Tryz.func348 rfl rfl rfl ?_
    refine CallV.to _ (c_divround s2 65536 (by unfold R64; omega) (by decide)) rfl ?_
    rw [fin]
    refine Ar.fit (by omega) ?_
    exact .refl
  · cases hc
    refine calls_to tok mix Tryz.func348 rfl rfl rfl ?_
    refine CallV.to _ (c_divround s3 65536 (by unfold R64; omega) (by decide)) rfl ?_
    rw [fin]
    refine Ar.fit (by omega) ?_
    exact .refl

end Go.Gs
/- Samples of a picture, the program's: between four pixels. -/
namespace Go.Gs
open Go.Proofs

def wgt (f g : Int) : Nat → Int
  | 0 => (256 - f) * (256 - g)
  | 1 => f * (256 - g)
  | 2 => (256 - f) * g
  | _ => f * g
def px4 (m : Img) (md i k : Int) (n : Nat) : Pix := texelI m (i + (n : Int) % 2) (k + (n : Int) / 2) md
def P8 (p : Pix) : Prop := R8 p.r ∧ R8 p.g ∧ R8 p.b ∧ R8 p.a
theorem texelI_P8 {m : Img} (h : ∀ q ∈ m.px, P8 q) (x y md : Int) : P8 (texelI m x y md) := by
  unfold texelI
  split
  · rw [List.getD_eq_getElem?_getD]
    cases hq : m.px[((wrapI y m.h md).1 * m.w + (wrapI x m.w md).1).toNat]? with
    | none => exact ⟨by decide, by decide, by decide, by decide⟩
    | some q => exact h q (List.mem_of_getElem? hq)
  · exact ⟨by decide, by decide, by decide, by decide⟩
theorem wgt_range {f g : Int} (hf : 0 ≤ f ∧ f ≤ 255) (hg : 0 ≤ g ∧ g ≤ 255) (n : Nat) : 0 ≤ wgt f g n ∧ wgt f g n ≤ 65536 := by
  have key : ∀ a b : Int, 0 ≤ a → a ≤ 256 → 0 ≤ b → b ≤ 256 → 0 ≤ a * b ∧ a * b ≤ 65536 := fun a b h1 h2 h3 h4 => by
    have h5 := Int.mul_nonneg h1 h3
    have h6 : a * b ≤ 256 * b := Int.mul_le_mul_of_nonneg_right h2 h3
    omega
  match n with
  | 0 => exact key _ _ (by omega) (by omega) (by omega) (by omega)
  | 1 => exact key _ _ (by omega) (by omega) (by omega) (by omega)
  | 2 => exact key _ _ (by omega) (by omega) (by omega) (by omega)
  | _ + 3 => exact key _ _ (by omega) (by omega) (by omega) (by omega)
theorem wgt_sum (f g : Int) : wgt f g 0 + wgt f g 1 + wgt f g 2 + wgt f g 3 = 65536 := by
  unfold wgt
  grind
theorem wv_range {w v : Int} (hw : 0 ≤ w ∧ w ≤ 65536) (hv : R8 v) : 0 ≤ w * v ∧ w * v ≤ w * 255 ∧ w * v ≤ 16711680 := by
  have h1 := Int.mul_nonneg hw.1 hv.1
  have h2 : w * v ≤ w * 255 := Int.mul_le_mul_of_nonneg_left hv.2 hw.1
  omega
theorem acc_range {W V : Nat → Int} (hw : ∀ n, 0 ≤ W n ∧ W n ≤ 65536) (hv : ∀ n, R8 (V n)) : ∀ n, 0 ≤ accW W V n ∧ accW W V n ≤ 16711680 * n
  | 0 => ⟨Int.le_refl _, Int.le_refl _⟩
  | n + 1 => by
    have h1 := acc_range hw hv n
    have h2 := wv_range (hw n) (hv n)
    unfold accW
    omega
theorem acc4 {f g : Int} (hf : 0 ≤ f ∧ f ≤ 255) (hg : 0 ≤ g ∧ g ≤ 255) {V : Nat → Int} (hv : ∀ n, R8 (V n)) : 0 ≤ accW (wgt f g) V 4 ∧ accW (wgt f g) V 4 ≤ 16711680 := by
  have h0 := wv_range (wgt_range hf hg 0) (hv 0)
  have h1 := wv_range (wgt_range hf hg 1) (hv 1)
  have h2 := wv_range (wgt_range hf hg 2) (hv 2)
  have h3 := wv_range (wgt_range hf hg 3) (hv 3)
  have hs := wgt_sum f g
  show 0 ≤ 0 + wgt f g 0 * V 0 + wgt f g 1 * V 1 + wgt f g 2 * V 2 + wgt f g 3 * V 3 ∧ 0 + wgt f g 0 * V 0 + wgt f g 1 * V 1 + wgt f g 2 * V 2 + wgt f g 3 * V 3 ≤ _
  generalize wgt f g 0 = w0 at *
  generalize wgt f g 1 = w1 at *
  generalize wgt f g 2 = w2 at *
  generalize wgt f g 3 = w3 at *
  omega
/-- The four sums behind some rounds. -/
def sumP (W : Nat → Int) (Q : Nat → Pix) (n : Nat) : Pix := ⟨accW W (fun j => (Q j).r) n, accW W (fun j => (Q j).g) n, accW W (fun j => (Q j).b) n, accW W (fun j => (Q j).a) n⟩
def smoothP (m : Img) (md : Int) (x y : Rat) : Pix :=
  let s := sumP (wgt (fineQ x % 256) (fineQ y % 256)) (px4 m md (fineQ x / 256) (fineQ y / 256)) 4
  ⟨bR s.r, bR s.g, bR s.b, bR s.a⟩
def compL (p : Pix) : List Int := [p.r, p.g, p.b, p.a]
def i64E (n : Int) : List SV := [i64 n]
def u8E (n : Int) : List SV := [u8 n]

set_option maxRecDepth 100000 in
set_option maxHeartbeats 4000000 in
theorem c_smooth (m : Img) (md : Int) (a b : BR) (hm : imgOK m) (h8 : ∀ q ∈ m.px, P8 q) (ha : a.len ≤ 1000000) (hb : b.len ≤ 1000000) :
    CallsG Tryz.prog 343 [.agg (imgE m), i64 md, .agg (brE a), .agg (brE b)] [] (.agg (pixE (smoothP m md a.v b.v))) [] := by
  refine calls_to tok mix Tryz.func343 rfl rfl rfl ?_
  refine CallV.to _ (q_fromints 1 2 (by decide) (by decide) (by decide)) rfl ?_
  refine CallV.to _ (c_smooth1 a ha) rfl ?_
  refine CallV.to _ (c_smooth1 b hb) rfl ?_
  unfold smoothP
  have ru := flo_r64 (((256 : Int) : Rat) * (a.v - Rat.divInt 1 2))
  have rv := flo_r64 (((256 : Int) : Rat) * (b.v - Rat.divInt 1 2))
  have eu : fineQ a.v = flo (((256 : Int) : Rat) * (a.v - Rat.divInt 1 2)) := rfl
  have ev : fineQ b.v = flo (((256 : Int) : Rat) * (b.v - Rat.divInt 1 2)) := rfl
  rw [← eu] at ru
  rw [← ev] at rv
  clear eu ev
  generalize fineQ a.v = u at *
  generalize fineQ b.v = v at *
  unfold R64 at ru rv
  have hi : -36028797018963968 ≤ u / 256 ∧ u / 256 ≤ 36028797018963967 := by omega
  have hk : -36028797018963968 ≤ v / 256 ∧ v / 256 ≤ 36028797018963967 := by omega
  have hf : 0 ≤ u % 256 ∧ u % 256 ≤ 255 := by omega
  have hg : 0 ≤ v % 256 ∧ v % 256 ≤ 255 := by omega
  generalize u / 256 = i at *
  generalize v / 256 = k at *
  generalize u % 256 = f at *
  generalize v % 256 = g at *
  have hW := wgt_range hf hg
  have w0 : 0 ≤ (256 - f) * (256 - g) ∧ (256 - f) * (256 - g) ≤ 65536 := hW 0
  have w1 : 0 ≤ f * (256 - g) ∧ f * (256 - g) ≤ 65536 := hW 1
  have w2 : 0 ≤ (256 - f) * g ∧ (256 - f) * g ≤ 65536 := hW 2
  have w3 : 0 ≤ f * g ∧ f * g ≤ 65536 := hW 3
  refine Ar.fit (by omega) ?_
  refine Ar.fit (by omega) ?_
  refine Ar.fit (by omega) ?_
  refine Ar.fit (by omega) ?_
  refine Ar.fit (by omega) ?_
  refine Ar.fit (by omega) ?_
  refine Ar.fit (by omega) ?_
  refine Ar.fit (by omega) ?_
  have hQ8 : ∀ n, P8 (px4 m md i k n) := fun n => texelI_P8 h8 _ _ _
  have hws : ∀ (n : Nat) x, [(256 - f) * (256 - g), f * (256 - g), (256 - f) * g, f * g][n]? = some x → x = wgt f g n := fun n x hx => by
    have : n < 4 := (List.getElem?_eq_some_iff.1 hx).1
    have e : n = 0 ∨ n = 1 ∨ n = 2 ∨ n = 3 := by omega
    rcases e with rfl | rfl | rfl | rfl <;> (cases hx; rfl)
  refine ⟨Int, i64E, [(256 - f) * (256 - g), f * (256 - g), (256 - f) * g, f * g], rfl, Ob.mk ⟨rfl, by decide, by decide, by decide, fun x _ => ⟨rfl, rfl, rfl⟩⟩ ?_⟩
  have hwl : [(256 - f) * (256 - g), f * (256 - g), (256 - f) * g, f * g].length = 4 := rfl
  generalize [(256 - f) * (256 - g), f * (256 - g), (256 - f) * g, f * g] = ws at *
  have hT : ∀ n, CallsG Tryz.prog 347 [.agg (imgE m), i64 (i + (n : Nat) % 2), i64 (k + (n : Nat) / 2), i64 md] [] (.agg (pixE (px4 m md i k n))) [] ∨ 4 ≤ n := fun n => by
    by_cases h : 4 ≤ n
    · exact .inr h
    · exact .inl (c_texel0 m _ _ md hm (by unfold R64; omega) (by unfold R64; omega))
  have aR := acc_range hW (fun n => (hQ8 n).1)
  have aG := acc_range hW (fun n => (hQ8 n).2.1)
  have aB := acc_range hW (fun n => (hQ8 n).2.2.1)
  have aA := acc_range hW (fun n => (hQ8 n).2.2.2)
  have oR := fun n => wv_range (hW n) (hQ8 n).1
  have oG := fun n => wv_range (hW n) (hQ8 n).2.1
  have oB := fun n => wv_range (hW n) (hQ8 n).2.2.1
  have oA := fun n => wv_range (hW n) (hQ8 n).2.2.2
  have tR := acc4 hf hg (fun n => (hQ8 n).1)
  have tG := acc4 hf hg (fun n => (hQ8 n).2.1)
  have tB := acc4 hf hg (fun n => (hQ8 n).2.2.1)
  have tA := acc4 hf hg (fun n => (hQ8 n).2.2.2)
  generalize px4 m md i k = Q at *
  generalize wgt f g = W at *
  intro hl1
  refine ⟨Nat, fun n => ⟨[(58, i64 n), (57, i64 ws.length), (56, .own 6), (16, .loc 5 0), (14, i64 k), (12, i64 i), (8, .loc 3 0), (4, .loc 0 0), (1, i64 md)], [(6, .arr 3 i64E 1 ws), (5, .box 287 [i64 (sumP W Q n).r, i64 (sumP W Q n).g, i64 (sumP W Q n).b, i64 (sumP W Q n).a]), (3, .box 57 (pixE zeroP)), (0, .box 36 (imgE m))], 7, 110, 0⟩, fun n => n ≤ 4, fun n => 4 - n, 0, Nat.zero_le _, ?_, ?_⟩
  · exact sub_of [(0, some 0), (3, some 3), (5, some 5), (6, some 6)] rfl rfl rfl ⟨rfl, rfl, rfl, rfl, rfl, rfl, rfl, rfl, rfl, trivial⟩ ⟨rfl, rfl, rfl, rfl, trivial⟩
  rintro n hn
  have hn : n ≤ 4 := hn
  refine Br.mk (fun h1 => ?_) (fun h1 => ?_)
  · have h1 : n < 4 := by omega
    refine Ob.mk (by omega) ?_
    refine Ob.mk (by omega) ?_
    intro w hw
    have hw : ws[n]? = some w := hw
    have hw := hws n w hw
    subst hw
    refine ⟨_, and_one.symm, ?_⟩
    refine Ar.fit (by omega) ?_
    refine Ob.mk (by decide) ?_
    refine Ar.fit (by show _ ≤ k + (n : Int) / 2 ∧ k + (n : Int) / 2 ≤ _; omega) ?_
    refine CallV.to _ ((hT n).resolve_right (by omega)) rfl ?_
    refine ⟨Int, u8E, compL (Q n), rfl, Ob.mk ⟨rfl, by decide, by decide, by decide, fun x _ => ⟨rfl, rfl, rfl⟩⟩ ?_⟩
    intro hl2
    have h8n := hQ8 n
    have hc4 : (compL (Q n)).length = 4 := rfl
    refine ⟨Nat, fun c => ⟨[(84, i64 c), (83, i64 4), (82, .own 7), (18, i64 (W n)), (58, i64 n), (57, i64 ws.length), (56, .own 6), (16, .loc 5 0), (14, i64 k), (12, i64 i), (8, .loc 3 0), (4, .loc 0 0), (1, i64 md)], [(7, .arr 5 u8E 1 (compL (Q n))), (6, .arr 3 i64E 1 ws), (5, .box 287 [i64 (if 1 ≤ c then (sumP W Q (n + 1)).r else (sumP W Q n).r), i64 (if 2 ≤ c then (sumP W Q (n + 1)).g else (sumP W Q n).g), i64 (if 3 ≤ c then (sumP W Q (n + 1)).b else (sumP W Q n).b), i64 (if 4 ≤ c then (sumP W Q (n + 1)).a else (sumP W Q n).a)]), (3, .box 57 (pixE zeroP)), (0, .box 36 (imgE m))], 8, 110, 0⟩, fun c => c ≤ 4, fun c => 4 - c, 0, Nat.zero_le _, ?_, ?_⟩
    · exact sub_of [(0, some 0), (3, some 3), (5, some 5), (6, some 6), (7, some 8)] rfl rfl rfl ⟨rfl, rfl, rfl, rfl, rfl, rfl, rfl, rfl, rfl, rfl, rfl, rfl, rfl, trivial⟩ ⟨rfl, rfl, rfl, rfl, rfl, trivial⟩
    rintro c hc
    have hc : c ≤ 4 := hc
    have e : c = 0 ∨ c = 1 ∨ c = 2 ∨ c = 3 ∨ c = 4 := by omega
    rcases e with rfl | rfl | rfl | rfl | rfl

    · refine Br.mk (fun _ => ?_) (fun h => absurd (by decide) h)
      have h1 := aR n
      have h2 := oR n
      have h3 : R8 (Q n).r := h8n.1
      refine Ob.mk (by omega) ?_
      refine Ob.mk (by omega) ?_
      intro z hz
      cases hz
      refine Ar.fit (by unfold R8 at h3; omega) ?_
      refine Ar.fit (by omega) ?_
      refine Ar.fit (by show _ ≤ accW W (fun j => (Q j).r) n + W n * (Q n).r ∧ accW W (fun j => (Q j).r) n + W n * (Q n).r ≤ _; omega) ?_
      refine Ar.fit (by decide) ?_
      exact ⟨1, by show 1 ≤ 4; decide, sub_of [(0, some 0), (3, some 3), (5, some 5), (6, some 6), (7, some 7)] rfl rfl rfl ⟨rfl, rfl, rfl, rfl, rfl, rfl, rfl, rfl, rfl, rfl, rfl, rfl, rfl, trivial⟩ ⟨rfl, rfl, rfl, rfl, rfl, trivial⟩, by decide⟩
    · refine Br.mk (fun _ => ?_) (fun h => absurd (by decide) h)
      have h1 := aG n
      have h2 := oG n
      have h3 : R8 (Q n).g := h8n.2.1
      refine Ob.mk (by omega) ?_
      refine Ob.mk (by omega) ?_
      intro z hz
      cases hz
      refine Ar.fit (by unfold R8 at h3; omega) ?_
      refine Ar.fit (by omega) ?_
      refine Ar.fit (by show _ ≤ accW W (fun j => (Q j).g) n + W n * (Q n).g ∧ accW W (fun j => (Q j).g) n + W n * (Q n).g ≤ _; omega) ?_
      refine Ar.fit (by decide) ?_
      exact ⟨2, by show 2 ≤ 4; decide, sub_of [(0, some 0), (3, some 3), (5, some 5), (6, some 6), (7, some 7)] rfl rfl rfl ⟨rfl, rfl, rfl, rfl, rfl, rfl, rfl, rfl, rfl, rfl, rfl, rfl, rfl, trivial⟩ ⟨rfl, rfl, rfl, rfl, rfl, trivial⟩, by decide⟩
    · refine Br.mk (fun _ => ?_) (fun h => absurd (by decide) h)
      have h1 := aB n
      have h2 := oB n
      have h3 : R8 (Q n).b := h8n.2.2.1
      refine Ob.mk (by omega) ?_
      refine Ob.mk (by omega) ?_
      intro z hz
      cases hz
      refine Ar.fit (by unfold R8 at h3; omega) ?_
      refine Ar.fit (by omega) ?_
      refine Ar.fit (by show _ ≤ accW W (fun j => (Q j).b) n + W n * (Q n).b ∧ accW W (fun j => (Q j).b) n + W n * (Q n).b ≤ _; omega) ?_
      refine Ar.fit (by decide) ?_
      exact ⟨3, by show 3 ≤ 4; decide, sub_of [(0, some 0), (3, some 3), (5, some 5), (6, some 6), (7, some 7)] rfl rfl rfl ⟨rfl, rfl, rfl, rfl, rfl, rfl, rfl, rfl, rfl, rfl, rfl, rfl, rfl, trivial⟩ ⟨rfl, rfl, rfl, rfl, rfl, trivial⟩, by decide⟩
    · refine Br.mk (fun _ => ?_) (fun h => absurd (by decide) h)
      have h1 := aA n
      have h2 := oA n
      have h3 : R8 (Q n).a := h8n.2.2.2
      refine Ob.mk (by omega) ?_
      refine Ob.mk (by omega) ?_
      intro z hz
      cases hz
      refine Ar.fit (by unfold R8 at h3; omega) ?_
      refine Ar.fit (by omega) ?_
      refine Ar.fit (by show _ ≤ accW W (fun j => (Q j).a) n + W n * (Q n).a ∧ accW W (fun j => (Q j).a) n + W n * (Q n).a ≤ _; omega) ?_
      refine Ar.fit (by decide) ?_
      exact ⟨4, by show 4 ≤ 4; decide, sub_of [(0, some 0), (3, some 3), (5, some 5), (6, some 6), (7, some 7)] rfl rfl rfl ⟨rfl, rfl, rfl, rfl, rfl, rfl, rfl, rfl, rfl, rfl, rfl, rfl, rfl, trivial⟩ ⟨rfl, rfl, rfl, rfl, rfl, trivial⟩, by decide⟩
    · refine Br.mk (fun h => absurd h (by decide)) (fun _ => ?_)
      refine Ar.fit (by omega) ?_
      exact ⟨n + 1, by show n + 1 ≤ 4; omega, sub_of [(0, some 0), (3, some 3), (5, some 5), (6, some 6)] rfl rfl rfl ⟨rfl, rfl, rfl, rfl, rfl, rfl, rfl, rfl, rfl, trivial⟩ ⟨rfl, rfl, rfl, rfl, trivial⟩, by dsimp only; omega⟩
  · have hn4 : n = 4 := by omega
    subst hn4
    refine CallV.to _ (c_by _ _ _ _ (sumP W Q 4).r 0 rfl tR) rfl ?_
    refine CallV.to _ (c_by _ _ _ _ (sumP W Q 4).g 1 rfl tG) rfl ?_
    refine CallV.to _ (c_by _ _ _ _ (sumP W Q 4).b 2 rfl tB) rfl ?_
    refine CallV.to _ (c_by _ _ _ _ (sumP W Q 4).a 3 rfl tA) rfl ?_
    exact .refl

end Go.Gs
/- Colors: scaled by their share, and between two. -/
namespace Go.Gs
open Go.Proofs

def mul8 (a b : Int) : Int := (2 * a * b + 255) / 510
theorem mul8_range {a b : Int} (ha : R8 a) (hb : R8 b) : 0 ≤ a * b ∧ a * b ≤ 65025 ∧ 0 ≤ mul8 a b ∧ mul8 a b ≤ b ∧ mul8 a b ≤ 255 := by
  unfold R8 at ha hb
  have h1 : 0 ≤ a * b := Int.mul_nonneg (by omega) (by omega)
  have h2 : a * b ≤ 255 * b := Int.mul_le_mul_of_nonneg_right (by omega) (by omega)
  unfold mul8
  rw [Int.mul_assoc]
  omega
theorem mul8_rdiv {a b : Int} (ha : R8 a) (hb : R8 b) : fitI (rdiv (a * b) 255) = mul8 a b := by
  have h := mul8_range ha hb
  have e : rdiv (a * b) 255 = mul8 a b := by
    unfold rdiv mul8
    rw [if_pos (by omega), show Int.natAbs 255 = 255 from rfl, Int.mul_assoc]
    omega
  rw [e]; unfold fitI; rw [if_pos (by omega)]

theorem c_mul8 (a b : Int) (ha : R8 a) (hb : R8 b) : CallsG Tryz.prog 113 [u8 a, u8 b] [] (u8 (mul8 a b)) [] := by
  have h := mul8_range ha hb
  unfold R8 at ha hb
  refine calls_to tok mix Tryz.func113 rfl rfl rfl ?_
  refine Ar.fit (by omega) ?_
  refine Ar.fit (by omega) ?_
  refine Ar.fit (by omega) ?_
  refine CallV.to _ (c_divround (a * b) 255 (by unfold R64; omega) (by decide)) rfl ?_
  rw [mul8_rdiv ha hb]
  refine Ar.fit (by omega) ?_
  exact .refl

theorem c_mul8' (a b : Int) (ha : R8 a) (hb : R8 b) : CallsG Tryz.prog 142 [u8 a, u8 b] [] (u8 (mul8 a b)) [] := by
  have h := mul8_range ha hb
  have e : 2 * a * b = 2 * (a * b) := Int.mul_assoc ..
  unfold R8 at ha hb
  refine calls_to tok mix Tryz.func142 rfl rfl rfl ?_
  refine Ar.fit (by omega) ?_
  refine Ar.fit (by omega) ?_
  refine Ar.fit (by omega) ?_
  refine Ar.fit (by omega) ?_
  refine Ar.fit (by omega) ?_
  refine Dv.any (by omega : (510 : Int) ≠ 0) ?_
  have ht := tdm (m := 2 * a * b + 255) (n := 510) (by omega)
  refine Ar.fit (by unfold mul8 at h; omega) ?_
  refine Ar.fit (by unfold mul8 at h; omega) ?_
  refine LE_int ?_
  unfold mul8; omega

def preP (c : Pix) : Pix := ⟨mul8 c.r c.a, mul8 c.g c.a, mul8 c.b c.a, c.a⟩
theorem preP_ok {c : Pix} (h : P8 c) : pxOK (preP c) := ⟨(mul8_range h.1 h.2.2.2).2.2.2.1, (mul8_range h.2.1 h.2.2.2).2.2.2.1, (mul8_range h.2.2.1 h.2.2.2).2.2.2.1⟩
theorem preP_8 {c : Pix} (h : P8 c) : P8 (preP c) := by
  have h1 := mul8_range h.1 h.2.2.2
  have h2 := mul8_range h.2.1 h.2.2.2
  have h3 := mul8_range h.2.2.1 h.2.2.2
  exact ⟨⟨h1.2.2.1, h1.2.2.2.2⟩, ⟨h2.2.2.1, h2.2.2.2.2⟩, ⟨h3.2.2.1, h3.2.2.2.2⟩, h.2.2.2⟩

theorem c_pre1 (x : Int) (c : Pix) (hx : R8 x) (h : P8 c) : CallsG Tryz.prog 186 [u8 x, .ptr (pixE c)] [] (u8 (mul8 x c.a)) [] := by
  refine calls_to tok mix Tryz.func186 rfl rfl rfl ?_
  refine CallV.to _ (c_mul8 x c.a hx h.2.2.2) rfl ?_
  exact .refl

theorem c_eachp (p c : Pix) (hp : P8 p) (h : P8 c) : CallsG Tryz.prog 111 [.agg (pixE p), .fn 186 [.ptr (pixE c)]] [] (.agg [u8 (mul8 p.r c.a), u8 (mul8 p.g c.a), u8 (mul8 p.b c.a), u8 (mul8 p.a c.a)]) [] := by
  refine calls_to tok mix Tryz.func111 rfl rfl rfl ?_
  refine Dr.mk (by decide +kernel) ?_
  refine CallV.to _ (c_pre1 _ c hp.1 h) rfl ?_
  refine CallV.to _ (c_pre1 _ c hp.2.1 h) rfl ?_
  refine CallV.to _ (c_pre1 _ c hp.2.2.1 h) rfl ?_
  refine CallV.to _ (c_pre1 _ c hp.2.2.2 h) rfl ?_
  exact .refl

theorem c_premul (c : Pix) (h : P8 c) : CallsG Tryz.prog 131 [.agg (pixE c)] [] (.agg (pixE (preP c))) [] := by
  refine calls_to tok mix Tryz.func131 rfl rfl rfl ?_
  refine CallV.to _ (c_eachp ⟨c.r, c.g, c.b, 0⟩ c ⟨h.1, h.2.1, h.2.2.1, (by decide : R8 0)⟩ h) rfl ?_
  exact .refl

theorem c_premul' (c : Pix) (h : P8 c) : CallsG Tryz.prog 145 [.agg (pixE c)] [] (.agg (pixE (preP c))) [] := by
  refine calls_to tok mix Tryz.func145 rfl rfl rfl ?_
  refine Dr.mk (by decide +kernel) ?_
  refine CallV.to _ (c_mul8' c.r c.a h.1 h.2.2.2) rfl ?_
  refine CallV.to _ (c_mul8' c.g c.a h.2.1 h.2.2.2) rfl ?_
  refine CallV.to _ (c_mul8' c.b c.a h.2.2.1 h.2.2.2) rfl ?_
  exact .refl

def lerp1 (a b n d : Int) : Int := a + rdiv (n * (b - a)) d
theorem lerp1_range {a b n d : Int} (ha : R8 a) (hb : R8 b) (hn : 0 ≤ n ∧ n ≤ d) (hd : 1 ≤ d ∧ d ≤ 65536) :
    (-16711680 ≤ n * (b - a) ∧ n * (b - a) ≤ 16711680) ∧ (-255 ≤ rdiv (n * (b - a)) d ∧ rdiv (n * (b - a)) d ≤ 255) ∧ R8 (lerp1 a b n d) := by
  unfold R8 at *
  have key : ∀ w : Int, 0 ≤ w → w ≤ 255 → 0 ≤ n * w ∧ n * w ≤ d * w ∧ d * w ≤ 16711680 ∧ (2 * (n * w).natAbs + d.natAbs) / (2 * d.natAbs) ≤ w.natAbs := by
    intro w h0 h1
    have k1 : 0 ≤ n * w := Int.mul_nonneg hn.1 h0
    have k2 : n * w ≤ d * w := Int.mul_le_mul_of_nonneg_right hn.2 h0
    have k3 : d * w ≤ 65536 * 255 := Int.mul_le_mul hd.2 h1 h0 (by decide)
    refine ⟨k1, k2, by omega, ?_⟩
    have k4 : (n * w).natAbs ≤ d.natAbs * w.natAbs := by rw [← Int.natAbs_mul]; omega
    have k5 : (2 * (n * w).natAbs + d.natAbs) / (2 * d.natAbs) < w.natAbs + 1 := by
      rw [Nat.div_lt_iff_lt_mul (by omega)]
      have : (w.natAbs + 1) * (2 * d.natAbs) = 2 * (d.natAbs * w.natAbs) + 2 * d.natAbs := by grind
      omega
    omega
  by_cases hab : a ≤ b
  · obtain ⟨k1, k2, k3, k4⟩ := key (b - a) (by omega) (by omega)
    have hr : rdiv (n * (b - a)) d = (((2 * (n * (b - a)).natAbs + d.natAbs) / (2 * d.natAbs) : Nat) : Int) := by
      unfold rdiv; rw [if_pos (by omega)]
    generalize (2 * (n * (b - a)).natAbs + d.natAbs) / (2 * d.natAbs) = q at k4 hr
    unfold lerp1
    rw [hr]
    omega
  · obtain ⟨k1, k2, k3, k4⟩ := key (a - b) (by omega) (by omega)
    have e : n * (b - a) = -(n * (a - b)) := by grind
    have e2 : (n * (b - a)).natAbs = (n * (a - b)).natAbs := by rw [e, Int.natAbs_neg]
    have hr : rdiv (n * (b - a)) d = (((2 * (n * (b - a)).natAbs + d.natAbs) / (2 * d.natAbs) : Nat) : Int) ∨ rdiv (n * (b - a)) d = -(((2 * (n * (b - a)).natAbs + d.natAbs) / (2 * d.natAbs) : Nat) : Int) := by
      unfold rdiv; split
      · exact .inl rfl
      · exact .inr rfl
    have hneg : n * (b - a) = 0 ∨ rdiv (n * (b - a)) d = -(((2 * (n * (b - a)).natAbs + d.natAbs) / (2 * d.natAbs) : Nat) : Int) := by
      by_cases h0 : n * (b - a) = 0
      · exact .inl h0
      · right; unfold rdiv; rw [if_neg (by omega)]
    rw [e2] at hr hneg
    generalize hq : (2 * (n * (a - b)).natAbs + d.natAbs) / (2 * d.natAbs) = q at k4 hr hneg
    unfold lerp1
    rcases hneg with h0 | h0
    · have : q = 0 := by
        rw [← hq, show (n * (a - b)).natAbs = 0 by omega]
        exact Nat.div_eq_of_lt (by omega)
      omega
    · omega

theorem c_lerp1 (a b n d : Int) (ha : R8 a) (hb : R8 b) (hn : 0 ≤ n ∧ n ≤ d) (hd : 1 ≤ d ∧ d ≤ 65536) :
    CallsG Tryz.prog 338 [u8 a, u8 b, .ptr [i64 n], .ptr [i64 d]] [] (u8 (lerp1 a b n d)) [] := by
  obtain ⟨h1, h2, h3⟩ := lerp1_range ha hb hn hd
  have hf : fitI (rdiv (n * (b - a)) d) = rdiv (n * (b - a)) d := by unfold fitI; rw [if_pos (by omega)]
  unfold R8 lerp1 at *
  refine calls_to tok mix Tryz.func338 rfl rfl rfl ?_
  refine Ar.fit (by omega) ?_
  refine Ar.fit (by omega) ?_
  refine Ar.fit (by omega) ?_
  refine Ar.fit (by omega) ?_
  refine Ar.fit (by omega) ?_
  refine CallV.to _ (c_divround (n * (b - a)) d (by unfold R64; omega) (by unfold R64; omega)) rfl ?_
  rw [hf]
  refine Ar.fit (by omega) ?_
  refine Ar.fit (by omega) ?_
  exact .refl

theorem c_lerp1' (a b n d : Int) (ha : R8 a) (hb : R8 b) (hn : 0 ≤ n ∧ n ≤ d) (hd : 1 ≤ d ∧ d ≤ 65536) :
    CallsG Tryz.prog 299 [u8 a, u8 b, i64 n, i64 d] [] (u8 (lerp1 a b n d)) [] := by
  obtain ⟨h1, h2, h3⟩ := lerp1_range ha hb hn hd
  have hf : fitI (rdiv (n * (b - a)) d) = rdiv (n * (b - a)) d := by unfold fitI; rw [if_pos (by omega)]
  unfold R8 lerp1 at *
  refine calls_to tok mix Tryz.func299 rfl rfl rfl ?_
  refine Ar.fit (by omega) ?_
  refine Ar.fit (by omega) ?_
  refine Ar.fit (by omega) ?_
  refine Ar.fit (by omega) ?_
  refine Ar.fit (by omega) ?_
  refine CallV.to _ (r8_divround (n * (b - a)) d (by unfold R64; omega) (by unfold R64; omega)) rfl ?_
  rw [hf]
  refine Ar.fit (by omega) ?_
  refine Ar.fit (by omega) ?_
  exact .refl

def lerpC (a b : Pix) (n d : Int) : Pix := ⟨lerp1 a.r b.r n d, lerp1 a.g b.g n d, lerp1 a.b b.b n d, lerp1 a.a b.a n d⟩
theorem lerpC_8 {a b : Pix} {n d : Int} (ha : P8 a) (hb : P8 b) (hn : 0 ≤ n ∧ n ≤ d) (hd : 1 ≤ d ∧ d ≤ 65536) : P8 (lerpC a b n d) :=
  ⟨(lerp1_range ha.1 hb.1 hn hd).2.2, (lerp1_range ha.2.1 hb.2.1 hn hd).2.2, (lerp1_range ha.2.2.1 hb.2.2.1 hn hd).2.2, (lerp1_range ha.2.2.2 hb.2.2.2 hn hd).2.2⟩

theorem c_both (a b : Pix) (n d : Int) (ha : P8 a) (hb : P8 b) (hn : 0 ≤ n ∧ n ≤ d) (hd : 1 ≤ d ∧ d ≤ 65536) :
    CallsG Tryz.prog 337 [.agg (pixE a), .agg (pixE b), .fn 338 [.ptr [i64 n], .ptr [i64 d]]] [] (.agg (pixE (lerpC a b n d))) [] := by
  refine calls_to tok mix Tryz.func337 rfl rfl rfl ?_
  refine Dr.mk (by decide +kernel) ?_
  refine CallV.to _ (c_lerp1 _ _ n d ha.1 hb.1 hn hd) rfl ?_
  refine CallV.to _ (c_lerp1 _ _ n d ha.2.1 hb.2.1 hn hd) rfl ?_
  refine CallV.to _ (c_lerp1 _ _ n d ha.2.2.1 hb.2.2.1 hn hd) rfl ?_
  refine CallV.to _ (c_lerp1 _ _ n d ha.2.2.2 hb.2.2.2 hn hd) rfl ?_
  exact .refl

theorem c_lerpc (a b : Pix) (n d : Int) (ha : P8 a) (hb : P8 b) (hn : 0 ≤ n ∧ n ≤ d) (hd : 1 ≤ d ∧ d ≤ 65536) :
    CallsG Tryz.prog 336 [.agg (pixE a), .agg (pixE b), i64 n, i64 d] [] (.agg (pixE (lerpC a b n d))) [] := by
  refine calls_to tok mix Tryz.func336 rfl rfl rfl ?_
  refine Br.mk (fun h => by omega) (fun _ => ?_)
  refine Br.mk (fun h => by omega) (fun _ => ?_)
  refine CallV.to _ (c_clamp n 0 d) rfl ?_
  rw [(clamp_eq (by omega)).2 hn]
  refine CallV.to _ (c_both a b n d ha hb hn hd) rfl ?_
  exact .refl

theorem c_lerpc' (a b : Pix) (n d : Int) (ha : P8 a) (hb : P8 b) (hn : 0 ≤ n ∧ n ≤ d) (hd : 1 ≤ d ∧ d ≤ 65536) :
    CallsG Tryz.prog 261 [.agg (pixE a), .agg (pixE b), i64 n, i64 d] [] (.agg (pixE (lerpC a b n d))) [] := by
  refine calls_to tok mix Tryz.func261 rfl rfl rfl ?_
  refine Br.mk (fun h => by omega) (fun _ => ?_)
  refine Br.mk (fun h => by omega) (fun _ => ?_)
  change Dr _ _ _
  rw [show maxL 0 [minL n [d]] = n by show max 0 (min n d) = n; omega]
  refine Dr.mk (by decide +kernel) ?_
  refine CallV.to _ (c_lerp1' _ _ n d ha.1 hb.1 hn hd) rfl ?_
  refine CallV.to _ (c_lerp1' _ _ n d ha.2.1 hb.2.1 hn hd) rfl ?_
  refine CallV.to _ (c_lerp1' _ _ n d ha.2.2.1 hb.2.2.1 hn hd) rfl ?_
  refine CallV.to _ (c_lerp1' _ _ n d ha.2.2.2 hb.2.2.2 hn hd) rfl ?_
  exact .refl

end Go.Gs
/- The stops of a gradient: those that may be, those that are the same, copies; offsets spread. -/
namespace Go.Gs
open Go.Proofs

structure Stop where
  o : Int
  c : Pix
  deriving DecidableEq
def stopE (s : Stop) : List SV := [i64 s.o, u8 s.c.r, u8 s.c.g, u8 s.c.b, u8 s.c.a]
theorem stop_eq {p q : Stop} : (p.o = q.o ∧ p.c.r = q.c.r ∧ p.c.g = q.c.g ∧ p.c.b = q.c.b ∧ p.c.a = q.c.a ∧ True) ↔ p = q := by
  rcases p with ⟨a, b, c, d, e⟩; rcases q with ⟨a', b', c', d', e'⟩; simp

/-- Offsets that do not fall, from one on. -/
def upTo : Int → List Stop → Prop
  | _, [] => True
  | lo, s :: l => (lo ≤ s.o ∧ s.o ≤ 65536) ∧ upTo s.o l
instance : ∀ lo l, Decidable (upTo lo l)
  | _, [] => isTrue trivial
  | _, s :: l => haveI := instDecidableUpTo s.o l; inferInstanceAs (Decidable (_ ∧ _))
theorem upTo_range : ∀ {lo : Int} {l : List Stop}, upTo lo l → ∀ s ∈ l, lo ≤ s.o ∧ s.o ≤ 65536
  | _, [], _, _, h => by cases h
  | _, a :: l, h, s, hs => by
    cases hs with
    | head => exact h.1
    | tail _ hs => have := upTo_range h.2 s hs; have := h.1; omega
theorem upTo_le : ∀ {lo : Int} {l : List Stop} {i j : Nat} {s t : Stop}, upTo lo l → i ≤ j → l[i]? = some s → l[j]? = some t → s.o ≤ t.o
  | _, [], i, _, _, _, _, _, h, _ => by simp at h
  | _, a :: l, 0, 0, s, t, _, _, h1, h2 => by simp at h1 h2; rw [← h1, ← h2]; omega
  | _, a :: l, 0, j + 1, s, t, h, _, h1, h2 => by
    simp at h1 h2
    have := upTo_range h.2 t (List.mem_of_getElem? h2)
    rw [← h1]; exact this.1
  | _, a :: l, i + 1, 0, _, _, _, h, _, _ => by omega
  | _, a :: l, i + 1, j + 1, s, t, h, hij, h1, h2 => upTo_le (i := i) (j := j) h.2 (by omega) (by simpa using h1) (by simpa using h2)

def stopsOK (l : List Stop) : Prop := (1 ≤ (l.length : Int) ∧ (l.length : Int) ≤ 16) ∧ upTo 0 l
instance (l : List Stop) : Decidable (stopsOK l) := inferInstanceAs (Decidable (_ ∧ _))

theorem c_gvalid (l : List Stop) : CallsG Tryz.prog 179 [.sl stopE l] [] (pr (stopsOK l)) [] := by
  refine calls_to tok mix Tryz.func179 rfl rfl rfl ?_
  intro hl1
  refine Br.mk (fun h => LE_false (fun k => by have := k.1.1; omega)) (fun h2 => ?_)
  intro hl2
  refine Br.mk (fun h => LE_false (fun k => by have := k.1.2; omega)) (fun h3 => ?_)
  intro hl4
  refine ⟨Int × Int, fun ⟨i, at_⟩ => ⟨[(3, i64 at_), (14, .sl stopE l), (15, i64 l.length), (16, i64 i)], [], 0, 32, 0⟩, fun (i, at_) => 0 ≤ i ∧ i ≤ l.length ∧ (upTo 0 l ↔ upTo at_ (l.drop i.toNat)), fun (i, _) => ((l.length : Int) - i).toNat, (0, 0), ?_, ?_, ?_⟩
  · exact ⟨by omega, by omega, Iff.rfl⟩
  · exact sub_of [] rfl rfl rfl ⟨rfl, rfl, rfl, rfl, trivial⟩ trivial
  rintro ⟨i, at_⟩ ⟨g1, g2, g3⟩
  refine Br.mk (fun h5 => ?_) (fun h5 => ?_)
  · refine Ob.mk (by omega) ?_
    intro x hx
    have hd : l.drop i.toNat = x :: l.drop (i.toNat + 1) := by
      obtain ⟨hi, he⟩ := List.getElem?_eq_some_iff.1 hx
      rw [List.drop_eq_getElem_cons hi, he]
    rw [hd] at g3
    refine Br.mk (fun h6 => LE_false (fun k => by have := (g3.1 k.2).1; omega)) (fun h6 => ?_)
    refine Br.mk (fun h7 => LE_false (fun k => by have := (g3.1 k.2).1; omega)) (fun h7 => ?_)
    refine Ar.fit (by omega) ?_
    refine ⟨(i + 1, x.o), ⟨by omega, by omega, ?_⟩, sub_of [] rfl rfl rfl ⟨rfl, rfl, rfl, rfl, trivial⟩ trivial, by dsimp only; omega⟩
    rw [g3, show (i + 1).toNat = i.toNat + 1 by omega]
    exact ⟨fun k => k.2, fun k => ⟨by omega, k⟩⟩
  · refine LE_true ⟨by omega, g3.2 ?_⟩
    rw [List.drop_eq_nil_of_le (by omega)]; trivial

theorem c_gvalid' (l : List Stop) : CallsG Tryz.prog 260 [.sl stopE l] [] (pr (stopsOK l)) [] := by
  refine calls_to tok mix Tryz.func260 rfl rfl rfl ?_
  refine ⟨Int × Int, fun ⟨i, _⟩ => ⟨[(0, .sl stopE l), (3, i64 i)], [], 0, 50, 0⟩, fun (i, at_) => 0 ≤ i ∧ i ≤ l.length ∧ (i = 0 → at_ = 0) ∧ (0 < i → 0 ≤ at_ ∧ ∃ y, l[(i - 1).toNat]? = some y ∧ y.o = at_) ∧ (upTo 0 l ↔ upTo at_ (l.drop i.toNat)), fun (i, _) => ((l.length : Int) - i).toNat, (0, 0), ?_, ?_, ?_⟩
  · exact ⟨by omega, by omega, fun _ => rfl, fun h => by omega, Iff.rfl⟩
  · exact sub_of [] rfl rfl rfl ⟨rfl, rfl, trivial⟩ trivial
  rintro ⟨i, at_⟩ ⟨g1, g2, g4, g5, g3⟩
  intro hl1
  refine Br.mk (fun h5 => ?_) (fun h5 => ?_)
  · refine Dr.mk (by decide +kernel) ?_
    refine Ob.mk (by omega) ?_
    intro x hx
    have hd : l.drop i.toNat = x :: l.drop (i.toNat + 1) := by
      obtain ⟨hi, he⟩ := List.getElem?_eq_some_iff.1 hx
      rw [List.drop_eq_getElem_cons hi, he]
    rw [hd] at g3
    have hat : 0 ≤ at_ := by
      by_cases h0 : 0 < i
      · exact (g5 h0).1
      · have := g4 (by omega); omega
    refine Br.mk (fun h6 => LE_false (fun k => by have := (g3.1 k.2).1; omega)) (fun h6 => ?_)
    refine Ob.mk (by omega) ?_
    intro x' hx'
    rw [hx] at hx'; cases hx'
    refine Br.mk (fun h7 => LE_false (fun k => by have := (g3.1 k.2).1; omega)) (fun h7 => ?_)
    refine Br.mk (fun h8 => ?_) (fun h8 => ?_)
    · obtain ⟨_, y, hy, hyo⟩ := g5 h8
      refine Ob.mk (by omega) ?_
      intro x' hx'
      rw [hx] at hx'; cases hx'
      refine Ar.fit (by omega) ?_
      refine Ob.mk (by omega) ?_
      intro y' hy'
      rw [hy] at hy'; cases hy'
      refine Br.mk (fun h9 => LE_false (fun k => by have := (g3.1 k.2).1; omega)) (fun h9 => ?_)
      refine Ar.fit (by omega) ?_
      refine ⟨(i + 1, x.o), ⟨by omega, by omega, fun h => by omega, fun _ => ⟨by omega, x, by rw [show (i + 1 - 1).toNat = i.toNat by omega]; exact hx, rfl⟩, ?_⟩, sub_of [] rfl rfl rfl ⟨rfl, rfl, trivial⟩ trivial, by dsimp only; omega⟩
      rw [g3, show (i + 1).toNat = i.toNat + 1 by omega]
      exact ⟨fun k => k.2, fun k => ⟨by omega, k⟩⟩
    · refine Ar.fit (by omega) ?_
      have := g4 (by omega)
      refine ⟨(i + 1, x.o), ⟨by omega, by omega, fun h => by omega, fun _ => ⟨by omega, x, by rw [show (i + 1 - 1).toNat = i.toNat by omega]; exact hx, rfl⟩, ?_⟩, sub_of [] rfl rfl rfl ⟨rfl, rfl, trivial⟩ trivial, by dsimp only; omega⟩
      rw [g3, show (i + 1).toNat = i.toNat + 1 by omega]
      exact ⟨fun k => k.2, fun k => ⟨by omega, k⟩⟩
  · have hall : upTo 0 l := g3.2 (by rw [List.drop_eq_nil_of_le (by omega)]; trivial)
    intro hl2
    refine Br.mk (fun h6 => ?_) (fun h6 => ?_)
    · intro hl3
      exact LE_pr ⟨fun k => ⟨⟨by omega, k⟩, hall⟩, fun k => k.1.2⟩
    · exact LE_false fun k => h6 k.1.1

theorem minL2 (a b : Int) : minL a [b] = min a b := rfl
def spreadI (t m : Int) : Int :=
  if m = 1 then clampI t 0 65536 else if m = 2 then t % 65536 else if m = 3 then min (t % 131072) (131072 - t % 131072) else 0
theorem c_clamp' (n lo hi : Int) : CallsG Tryz.prog 262 [i64 n, i64 lo, i64 hi] [] (i64 (clampI n lo hi)) [] := by
  refine calls_to tok mix Tryz.func262 rfl rfl rfl ?_
  refine Br.mk (fun h => ?_) (fun h => ?_)
  · exact LE_int (by simp [clampI, h])
  refine Br.mk (fun h2 => ?_) (fun h2 => ?_)
  · exact LE_int (by simp [clampI, h, h2])
  · exact LE_int (by simp [clampI, h, h2])

theorem c_spreadoff (t m : Int) : CallsG Tryz.prog 335 [i64 t, i64 m] [] (i64 (spreadI t m)) [] := by
  refine calls_to tok mix Tryz.func335 rfl rfl rfl ?_
  refine Br.mk (fun h1 => ?_) (fun h1 => ?_)
  · refine CallV.to _ (c_clamp t 0 65536) rfl ?_
    exact LE_int (by simp [spreadI, h1])
  refine Br.mk (fun h2 => ?_) (fun h2 => ?_)
  · refine CallV.to _ (c_mod t 65536 (by decide) (by decide)) rfl ?_
    exact LE_int (by simp [spreadI, h2])
  refine Br.mk (fun h3 => ?_) (fun h3 => ?_)
  · refine CallV.to _ (c_mod t 131072 (by decide) (by decide)) rfl ?_
    refine Ar.fit (by omega) ?_
    refine LE_int ?_
    rw [spreadI, if_neg h1, if_neg h2, if_pos h3]
    exact minL2 _ _
  · exact LE_int (by rw [spreadI, if_neg h1, if_neg h2, if_neg h3])

theorem c_spreadoff' (t m : Int) : CallsG Tryz.prog 209 [i64 t, i64 m] [] (i64 (spreadI t m)) [] := by
  refine calls_to tok mix Tryz.func209 rfl rfl rfl ?_
  refine Br.mk (fun h1 => ?_) (fun h1 => ?_)
  · refine CallV.to _ (c_clamp' t 0 65536) rfl ?_
    exact LE_int (by simp [spreadI, h1])
  refine Br.mk (fun h2 => ?_) (fun h2 => ?_)
  · refine CallV.to _ (c_mod' t 65536 (by decide) (by decide)) rfl ?_
    exact LE_int (by simp [spreadI, h2])
  refine Br.mk (fun h3 => ?_) (fun h3 => ?_)
  · refine CallV.to _ (c_mod' t 131072 (by decide) (by decide)) rfl ?_
    refine Ar.fit (by omega) ?_
    refine LE_int ?_
    rw [spreadI, if_neg h1, if_neg h2, if_pos h3]
    exact minL2 _ _
  · exact LE_int (by rw [spreadI, if_neg h1, if_neg h2, if_neg h3])

theorem slist_eq {xs ys : List Stop} {i : Int} (hl : (xs.length : Int) = ys.length) (hi : ¬ i < xs.length) (h : ∀ j : Nat, (j : Int) < i → xs[j]? = ys[j]?) : xs = ys := by
  refine List.ext_getElem? fun j => ?_
  by_cases hj : (j : Int) < i
  · exact h j hj
  · rw [List.getElem?_eq_none (by omega), List.getElem?_eq_none (by omega)]

theorem c_stseq (xs ys : List Stop) : CallsG Tryz.prog 176 [.sl stopE xs, .sl stopE ys] [] (pr (xs = ys)) [] := by
  refine calls_to tok mix Tryz.func176 rfl rfl rfl ?_
  intro hl1 hl2
  refine Br.mk (fun h1 => LE_false fun e => h1 (by rw [e])) (fun h1 => ?_)
  have h1 := Decidable.not_not.1 h1
  intro hl3
  refine ⟨Int, fun i => ⟨[(13, i64 i), (12, i64 xs.length), (0, .sl stopE xs), (1, .sl stopE ys)], [], 0, 26, 0⟩, fun i => 0 ≤ i ∧ i ≤ xs.length ∧ ∀ j : Nat, (j : Int) < i → xs[j]? = ys[j]?, fun i => ((xs.length : Int) - i).toNat, 0, ?_, ?_, ?_⟩
  · exact ⟨by omega, by omega, fun j hj => by omega⟩
  · exact sub_of [] rfl rfl rfl ⟨rfl, rfl, rfl, rfl, trivial⟩ trivial
  rintro i ⟨h4, h5, h6⟩
  refine Br.mk (fun h7 => ?_) (fun h7 => ?_)
  · refine Dr.mk (by decide +kernel) ?_
    refine Ob.mk (by omega) ?_
    intro x hx
    refine Ob.mk (by omega) ?_
    intro y hy
    refine Br.mk (fun h8 => ?_) (fun h8 => ?_)
    · refine LE_false fun e => h8 (stop_eq.2 ?_)
      subst e
      rw [hx] at hy; exact Option.some.inj hy
    · refine Ar.fit (by omega) ?_
      refine ⟨i + 1, ⟨by omega, by omega, fun j hj => ?_⟩, sub_of [] rfl rfl rfl ⟨rfl, rfl, rfl, rfl, trivial⟩ trivial, by dsimp only; omega⟩
      by_cases e : j = i.toNat
      · subst e; rw [hx, hy, stop_eq.1 (Decidable.not_not.1 h8)]
      · exact h6 j (by omega)
  · exact LE_true (slist_eq h1 h7 h6)

theorem c_stclone (q : List Stop) (hq : q.length ≤ 256) : CallsG Tryz.prog 126 [.sl stopE q] [] (.own 0) [(0, .arr 152 stopE 5 q)] := by
  refine calls_own tok mix Tryz.func126 rfl rfl rfl ?_
  by_cases h0 : q = []
  · refine NilC.any (Br.mk ?_ ?_)
    · exact ⟨none, .nil rfl, h0⟩
    · refine ⟨Stop, stopE, [], rfl, Ob.mk ⟨rfl, by decide, by decide, by decide, fun x hx => by cases hx⟩ ?_⟩
      refine ⟨q, rfl, Ob.mk ⟨(by show _ * (16 : Int) ≤ _; simp only [List.length_nil]; omega), (by simp only [List.length_nil]; omega), by decide, fun _ _ => rfl⟩ ?_⟩
      exact ⟨some 1, .own _ rfl, rfl, fun _ _ => rfl⟩
  · refine NilC.some (fun h => h0 (List.eq_nil_of_length_eq_zero h)) ?_
    refine ⟨Stop, stopE, [], rfl, Ob.mk ⟨rfl, by decide, by decide, by decide, fun x hx => by cases hx⟩ ?_⟩
    refine ⟨q, rfl, Ob.mk ⟨(by show _ * (16 : Int) ≤ _; simp only [List.length_nil]; omega), (by simp only [List.length_nil]; omega), by decide, fun _ _ => rfl⟩ ?_⟩
    exact ⟨some 1, .own _ rfl, rfl, fun _ _ => rfl⟩

theorem c_pxclone (q : List Pix) (hq : q.length ≤ 1000) : CallsG Tryz.prog 66 [.sl pixE q] [] (.own 0) [(0, .arr 57 pixE 4 q)] := by
  refine calls_own tok mix Tryz.func66 rfl rfl rfl ?_
  by_cases h0 : q = []
  · refine NilC.any (Br.mk ?_ ?_)
    · exact ⟨none, .nil rfl, h0⟩
    · refine ⟨Pix, pixE, [], rfl, Ob.mk ⟨rfl, by decide, by decide, by decide, fun x hx => by cases hx⟩ ?_⟩
      refine ⟨q, rfl, Ob.mk ⟨(by show _ * (4 : Int) ≤ _; simp only [List.length_nil]; omega), (by simp only [List.length_nil]; omega), by decide, fun _ _ => rfl⟩ ?_⟩
      exact ⟨some 1, .own _ rfl, rfl, fun _ _ => rfl⟩
  · refine NilC.some (fun h => h0 (List.eq_nil_of_length_eq_zero h)) ?_
    refine ⟨Pix, pixE, [], rfl, Ob.mk ⟨rfl, by decide, by decide, by decide, fun x hx => by cases hx⟩ ?_⟩
    refine ⟨q, rfl, Ob.mk ⟨(by show _ * (4 : Int) ≤ _; simp only [List.length_nil]; omega), (by simp only [List.length_nil]; omega), by decide, fun _ _ => rfl⟩ ?_⟩
    exact ⟨some 1, .own _ rfl, rfl, fun _ _ => rfl⟩

end Go.Gs
/- The color of a gradient at an offset. -/
namespace Go.Gs
open Go.Proofs

/-- How many stops stand at the front with an offset of at most t. -/
def kAt (t : Int) : List Stop → Nat
  | [] => 0
  | s :: l => if s.o ≤ t then kAt t l + 1 else 0
theorem kAt_le (t : Int) : ∀ l, kAt t l ≤ l.length
  | [] => Nat.le_refl _
  | s :: l => by unfold kAt; split <;> simp [kAt_le t l]
theorem kAt_lt {t : Int} : ∀ {l : List Stop} {i : Nat} {s : Stop}, i < kAt t l → l[i]? = some s → s.o ≤ t
  | [], _, _, h, _ => by simp [kAt] at h
  | a :: l, i, s, h, hs => by
    unfold kAt at h
    split at h
    · rename_i ha
      cases i with
      | zero => simp at hs; rw [← hs]; exact ha
      | succ i => exact kAt_lt (l := l) (i := i) (by omega) (by simpa using hs)
    · omega
theorem kAt_ge {t : Int} : ∀ {l : List Stop} {s : Stop}, l[kAt t l]? = some s → t < s.o
  | [], _, h => by simp at h
  | a :: l, s, h => by
    unfold kAt at h
    split at h
    · exact kAt_ge (l := l) (by simpa using h)
    · rename_i ha
      simp at h; rw [← h]; omega
theorem kAt_unique {t : Int} {l : List Stop} {k : Nat} (hk : k ≤ l.length) (h1 : ∀ (i : Nat) s, i < k → l[i]? = some s → s.o ≤ t) (h2 : ∀ s, l[k]? = some s → t < s.o) : kAt t l = k := by
  have h3 := kAt_le t l
  rcases Nat.lt_trichotomy (kAt t l) k with h | h | h
  · obtain ⟨s, hs⟩ : ∃ s, l[kAt t l]? = some s := ⟨l[kAt t l]'(by omega), List.getElem?_eq_getElem _⟩
    have := kAt_ge hs; have := h1 _ _ h hs; omega
  · exact h
  · obtain ⟨s, hs⟩ : ∃ s, l[k]? = some s := ⟨l[k]'(by omega), List.getElem?_eq_getElem _⟩
    have := h2 _ hs; have := kAt_lt h hs; omega

theorem P8_zero : P8 zeroP := ⟨⟨by decide, by decide⟩, ⟨by decide, by decide⟩, ⟨by decide, by decide⟩, ⟨by decide, by decide⟩⟩
def zstop : Stop := ⟨0, zeroP⟩
def stAt (l : List Stop) (i : Nat) : Stop := l.getD i zstop
theorem stAt_some {l : List Stop} {i : Nat} {s : Stop} (h : l[i]? = some s) : stAt l i = s := by simp [stAt, h]
def colAt (l : List Stop) (t : Int) : Pix :=
  if stopsOK l then
    (if kAt t l = 0 then (stAt l 0).c else if kAt t l = l.length then (stAt l (kAt t l - 1)).c
     else lerpC (stAt l (kAt t l - 1)).c (stAt l (kAt t l)).c (t - (stAt l (kAt t l - 1)).o) ((stAt l (kAt t l)).o - (stAt l (kAt t l - 1)).o))
  else zeroP

theorem colAt_8 {l : List Stop} {t : Int} (h8 : ∀ s ∈ l, P8 s.c) : P8 (colAt l t) := by
  unfold colAt
  split
  · rename_i ho
    have hl := ho.1.1
    have get : ∀ i, i < l.length → ∃ s, l[i]? = some s ∧ s ∈ l := fun i hi => ⟨l[i], List.getElem?_eq_getElem _, List.getElem_mem _⟩
    split
    · obtain ⟨s, hs, hm⟩ := get 0 (by omega)
      rw [stAt_some hs]; exact h8 s hm
    split
    · obtain ⟨s, hs, hm⟩ := get (kAt t l - 1) (by omega)
      rw [stAt_some hs]; exact h8 s hm
    · have hk := kAt_le t l
      obtain ⟨s, hs, hm⟩ := get (kAt t l - 1) (by omega)
      obtain ⟨u, hu, hn⟩ := get (kAt t l) (by omega)
      rw [stAt_some hs, stAt_some hu]
      have h1 := kAt_lt (t := t) (i := kAt t l - 1) (by omega) hs
      have h2 := kAt_ge hu
      have h3 := upTo_range ho.2 s hm
      have h4 := upTo_range ho.2 u hn
      exact lerpC_8 (h8 s hm) (h8 u hn) (by omega) (by omega)
  · exact P8_zero

theorem c_colat (l : List Stop) (t : Int) (h8 : ∀ s ∈ l, P8 s.c) : CallsG Tryz.prog 334 [.sl stopE l, i64 t] [] (.agg (pixE (colAt l t))) [] := by
  refine calls_to tok mix Tryz.func334 rfl rfl rfl ?_
  have fin : ∀ {σ : SV} {q : Pix}, colAt l t = q → LE σ (.agg (pixE q)) → LE σ (.agg (pixE (colAt l t))) := fun e h => e ▸ h
  refine CallV.to _ (c_gvalid l) rfl ?_
  refine Br.mk (fun h1 => ?_) (fun h1 => ?_)
  · exact fin (q := zeroP) (by rw [colAt, if_neg h1]) .refl
  have h1 := Decidable.not_not.1 h1
  have hl := h1.1
  intro hl2
  refine ⟨Int, fun i => ⟨[(0, .sl stopE l), (1, i64 t), (4, .loc 0 0), (5, i64 (i - 1)), (14, .sl stopE l), (15, i64 l.length), (16, i64 i)], [(0, .box 31 (pixE zeroP))], 1, 68, 0⟩,
    fun i => 0 ≤ i ∧ i ≤ l.length ∧ ∀ (j : Nat) s, (j : Int) < i → l[j]? = some s → s.o ≤ t, fun i => ((l.length : Int) - i).toNat, 0, ?_, ?_, ?_⟩
  · exact ⟨by omega, by omega, fun j s hj => by omega⟩
  · exact sub_of [(0, some 0)] rfl rfl rfl ⟨rfl, rfl, rfl, rfl, rfl, rfl, rfl, trivial⟩ ⟨rfl, trivial⟩
  rintro i ⟨g1, g2, g3⟩
  have ends : ∀ k : Nat, k ≤ l.length → (k : Int) = i → (∀ s, l[k]? = some s → t < s.o) → kAt t l = k := fun k hk hi hs => kAt_unique hk (fun j s hj => g3 j s (by omega)) hs
  refine Br.mk (fun h5 => ?_) (fun h5 => ?_)
  · refine Ob.mk (by omega) ?_
    intro x hx
    refine Br.mk (fun h6 => ?_) (fun h6 => ?_)
    · have hk := ends i.toNat (by omega) (by omega) (fun s hs => by rw [hx] at hs; cases hs; omega)
      refine Br.mk (fun h7 => ?_) (fun h7 => ?_)
      · refine Ob.mk (by omega) ?_
        intro y hy
        refine fin (q := y.c) ?_ .refl
        rw [colAt, if_pos h1, if_pos (by omega), stAt_some (i := 0) hy]
      · intro hl6
        refine Ar.fit (by omega) ?_
        refine Br.mk (fun h9 => ?_) (fun h9 => ?_)
        · omega
        · refine Dr.dyn (Ob.mk (by decide +kernel) ?_)
          refine Ob.mk (by omega) ?_
          intro y hy
          refine Ar.fit (by omega) ?_
          refine Ob.mk (by omega) ?_
          intro z hz
          refine Ob.mk (by kernel_rfl) ?_
          have e1 : kAt t l - 1 = (i - 1).toNat := by omega
          have e2 : kAt t l = (i - 1 + 1).toNat := by omega
          have q1 := kAt_lt (t := t) (i := (i - 1).toNat) (by omega) hy
          have q2 := kAt_ge (t := t) (l := l) (s := z) (by rw [e2]; exact hz)
          have q3 := upTo_range h1.2 y (List.mem_of_getElem? hy)
          have q4 := upTo_range h1.2 z (List.mem_of_getElem? hz)
          refine Ar.fit (by omega) ?_
          refine Ar.fit (by omega) ?_
          refine CallV.to _ (c_lerpc y.c z.c (t - y.o) (z.o - y.o) (h8 y (List.mem_of_getElem? hy)) (h8 z (List.mem_of_getElem? hz)) (by omega) (by omega)) rfl ?_
          refine fin (q := lerpC y.c z.c (t - y.o) (z.o - y.o)) ?_ .refl
          rw [colAt, if_pos h1, if_neg (by omega), if_neg (by omega), e1, stAt_some hy, stAt_some (i := kAt t l) (by rw [e2]; exact hz)]
    · refine Ar.fit (by omega) ?_
      refine ⟨i + 1, ⟨by omega, by omega, fun j s hj hs => ?_⟩, sub_of [(0, some 0)] rfl rfl rfl ⟨rfl, rfl, rfl, congrArg (fun n => some (i64 n)) (by omega), rfl, rfl, rfl, trivial⟩ ⟨rfl, trivial⟩, by dsimp only; omega⟩
      by_cases e : j = i.toNat
      · subst e; rw [hx] at hs; cases hs; omega
      · exact g3 j s (by omega) hs
  · have hk := ends i.toNat (by omega) (by omega) (fun s hs => by rw [List.getElem?_eq_none (by omega)] at hs; cases hs)
    refine Br.mk (fun h7 => by omega) (fun h7 => ?_)
    intro hl6
    refine Ar.fit (by omega) ?_
    refine Br.mk (fun h9 => ?_) (fun h9 => by omega)
    refine Ob.mk (by omega) ?_
    intro y hy
    refine fin (q := y.c) ?_ .refl
    rw [colAt, if_pos h1, if_neg (by omega), if_pos (by omega), show kAt t l - 1 = (i - 1).toNat by omega, stAt_some hy]

theorem c_colat' (l : List Stop) (t : Int) (h8 : ∀ s ∈ l, P8 s.c) : CallsG Tryz.prog 208 [.sl stopE l, i64 t] [] (.agg (pixE (colAt l t))) [] := by
  refine calls_to tok mix Tryz.func208 rfl rfl rfl ?_
  have fin : ∀ {σ : SV} {q : Pix}, colAt l t = q → LE σ (.agg (pixE q)) → LE σ (.agg (pixE (colAt l t))) := fun e h => e ▸ h
  refine CallV.to _ (c_gvalid' l) rfl ?_
  refine Br.mk (fun h1 => ?_) (fun h1 => ?_)
  · exact fin (q := zeroP) (by rw [colAt, if_neg h1]) .refl
  have h1 := Decidable.not_not.1 h1
  have hl := h1.1
  refine ⟨Int × Int, fun ⟨i, k⟩ => ⟨[(0, .sl stopE l), (1, i64 t), (4, .loc 0 0), (5, i64 (k - 1)), (6, i64 i)], [(0, .box 31 (pixE zeroP))], 1, 72, 0⟩,
    fun (i, k) => 0 ≤ i ∧ i ≤ l.length ∧ 0 ≤ k ∧ k ≤ i ∧ (0 < k → ∃ y, l[(k - 1).toNat]? = some y ∧ y.o ≤ t) ∧ ∀ (j : Nat) s, k ≤ (j : Int) → (j : Int) < i → l[j]? = some s → t < s.o, fun (i, _) => ((l.length : Int) - i).toNat, (0, 0), ?_, ?_, ?_⟩
  · exact ⟨by omega, by omega, by omega, by omega, fun h => by omega, fun j s _ hj => by omega⟩
  · exact sub_of [(0, some 0)] rfl rfl rfl ⟨rfl, rfl, rfl, rfl, rfl, trivial⟩ ⟨rfl, trivial⟩
  rintro ⟨i, k⟩ ⟨g1, g2, g3, g4, g5, g6⟩
  intro hl2
  refine Br.mk (fun h5 => ?_) (fun h5 => ?_)
  · refine Ob.mk (by omega) ?_
    intro x hx
    refine Br.mk (fun h6 => ?_) (fun h6 => ?_)
    · refine Ar.fit (by omega) ?_
      refine ⟨(i + 1, i + 1), ⟨by omega, by omega, by omega, by omega, fun _ => ⟨x, by rw [show (i + 1 - 1).toNat = i.toNat by omega]; exact hx, h6⟩, fun j s hj hj2 => by omega⟩,
        sub_of [(0, some 0)] rfl rfl rfl ⟨rfl, rfl, rfl, congrArg (fun n => some (i64 n)) (by omega), rfl, trivial⟩ ⟨rfl, trivial⟩, by dsimp only; omega⟩
    · refine Ar.fit (by omega) ?_
      refine ⟨(i + 1, k), ⟨by omega, by omega, by omega, by omega, g5, fun j s hj hj2 hs => ?_⟩,
        sub_of [(0, some 0)] rfl rfl rfl ⟨rfl, rfl, rfl, rfl, rfl, trivial⟩ ⟨rfl, trivial⟩, by dsimp only; omega⟩
      by_cases e : j = i.toNat
      · subst e; rw [hx] at hs; cases hs; omega
      · exact g6 j s hj (by omega) hs
  · have hk : kAt t l = k.toNat := by
      refine kAt_unique (by omega) (fun j s hj hs => ?_) (fun s hs => g6 k.toNat s (by omega) ?_ hs)
      · obtain ⟨y, hy, hyt⟩ := g5 (by omega)
        have := upTo_le h1.2 (show j ≤ (k - 1).toNat by omega) hs hy
        omega
      · have := (List.getElem?_eq_some_iff.1 hs).1
        omega
    refine Br.mk (fun h7 => ?_) (fun h7 => ?_)
    · refine Ob.mk (by omega) ?_
      intro y hy
      refine fin (q := y.c) ?_ .refl
      rw [colAt, if_pos h1, if_pos (by omega), stAt_some (i := 0) hy]
    intro hl3
    refine Ar.fit (by omega) ?_
    refine Br.mk (fun h9 => ?_) (fun h9 => ?_)
    · refine Ob.mk (by omega) ?_
      intro y hy
      refine fin (q := y.c) ?_ .refl
      rw [colAt, if_pos h1, if_neg (by omega), if_pos (by omega), show kAt t l - 1 = (k - 1).toNat by omega, stAt_some hy]
    · refine Dr.mk (by decide +kernel) ?_
      refine Ob.mk (by omega) ?_
      intro y hy
      refine Ar.fit (by omega) ?_
      refine Ob.mk (by omega) ?_
      intro z hz
      have e1 : kAt t l - 1 = (k - 1).toNat := by omega
      have e2 : kAt t l = (k - 1 + 1).toNat := by omega
      have q1 := kAt_lt (t := t) (i := (k - 1).toNat) (by omega) hy
      have q2 := kAt_ge (t := t) (l := l) (s := z) (by rw [e2]; exact hz)
      have q3 := upTo_range h1.2 y (List.mem_of_getElem? hy)
      have q4 := upTo_range h1.2 z (List.mem_of_getElem? hz)
      refine Ob.mk (by omega) ?_
      intro y' hy'
      rw [hy] at hy'; cases hy'
      refine Ar.fit (by omega) ?_
      refine Ar.fit (by omega) ?_
      refine Ob.mk (by omega) ?_
      intro z' hz'
      rw [hz] at hz'; cases hz'
      refine Ob.mk (by omega) ?_
      intro y' hy'
      rw [hy] at hy'; cases hy'
      refine Ar.fit (by omega) ?_
      refine CallV.to _ (c_lerpc' y.c z.c (t - y.o) (z.o - y.o) (h8 y (List.mem_of_getElem? hy)) (h8 z (List.mem_of_getElem? hz)) (by omega) (by omega)) rfl ?_
      refine fin (q := lerpC y.c z.c (t - y.o) (z.o - y.o)) ?_ .refl
      rw [colAt, if_pos h1, if_neg (by omega), if_neg (by omega), e1, stAt_some hy, stAt_some (i := kAt t l) (by rw [e2]; exact hz)]

def spOK (m : Int) : Prop := 1 ≤ m ∧ m ≤ 3
instance (m : Int) : Decidable (spOK m) := inferInstanceAs (Decidable (_ ∧ _))
def spCol (l : List Stop) (m t : Int) : Pix := if spOK m then colAt l (spreadI t m) else zeroP
theorem spCol_8 {l : List Stop} {m t : Int} (h8 : ∀ s ∈ l, P8 s.c) : P8 (spCol l m t) := by
  unfold spCol; split
  · exact colAt_8 h8
  · exact P8_zero

theorem c_spcol (l : List Stop) (m t : Int) (h8 : ∀ s ∈ l, P8 s.c) : CallsG Tryz.prog 333 [.sl stopE l, i64 m, i64 t] [] (.agg (pixE (spCol l m t))) [] := by
  refine calls_to tok mix Tryz.func333 rfl rfl rfl ?_
  have fin : ∀ {σ : SV} {q : Pix}, spCol l m t = q → LE σ (.agg (pixE q)) → LE σ (.agg (pixE (spCol l m t))) := fun e h => e ▸ h
  refine Br.mk (fun h1 => ?_) (fun h1 => ?_)
  · exact fin (q := zeroP) (by rw [spCol, if_neg (fun h : spOK m => by unfold spOK at h; omega)]) .refl
  refine Br.mk (fun h2 => ?_) (fun h2 => ?_)
  · exact fin (q := zeroP) (by rw [spCol, if_neg (fun h : spOK m => by unfold spOK at h; omega)]) .refl
  refine CallV.to _ (c_spreadoff t m) rfl ?_
  refine CallV.to _ (c_colat l (spreadI t m) h8) rfl ?_
  exact fin (by rw [spCol, if_pos (show spOK m from ⟨by omega, by omega⟩)]) .refl

theorem c_spcol' (l : List Stop) (m t : Int) (h8 : ∀ s ∈ l, P8 s.c) : CallsG Tryz.prog 150 [.sl stopE l, i64 m, i64 t] [] (.agg (pixE (spCol l m t))) [] := by
  refine calls_to tok mix Tryz.func150 rfl rfl rfl ?_
  have fin : ∀ {σ : SV} {q : Pix}, spCol l m t = q → LE σ (.agg (pixE q)) → LE σ (.agg (pixE (spCol l m t))) := fun e h => e ▸ h
  have go : ∀ (_ : spOK m), LE (.agg (pixE (colAt l (spreadI t m)))) (.agg (pixE (spCol l m t))) := fun h => fin (by rw [spCol, if_pos h]) .refl
  refine Br.mk (fun h1 => ?_) (fun h1 => ?_)
  · refine Br.mk (fun h2 => ?_) (fun h2 => ?_)
    · refine Br.mk (fun h3 => ?_) (fun h3 => ?_)
      · exact fin (q := zeroP) (by rw [spCol, if_neg (fun h : spOK m => by unfold spOK at h; omega)]) .refl
      · refine CallV.to _ (c_spreadoff' t m) rfl ?_
        refine CallV.to _ (c_colat' l (spreadI t m) h8) rfl ?_
        exact go ⟨by omega, by omega⟩
    · refine CallV.to _ (c_spreadoff' t m) rfl ?_
      refine CallV.to _ (c_colat' l (spreadI t m) h8) rfl ?_
      exact go ⟨by omega, by omega⟩
  · refine CallV.to _ (c_spreadoff' t m) rfl ?_
    refine CallV.to _ (c_colat' l (spreadI t m) h8) rfl ?_
    exact go ⟨by omega, by omega⟩

end Go.Gs
/- Points that may be. -/
namespace Go.Gs
open Go.Proofs

structure Pt where
  x : Int
  y : Int
  deriving DecidableEq
def ptE (p : Pt) : List SV := [i64 p.x, i64 p.y]
def zp : Pt := ⟨0, 0⟩
def ptOK (p : Pt) : Prop := (-1048576 ≤ p.x ∧ p.x ≤ 1048576) ∧ (-1048576 ≤ p.y ∧ p.y ≤ 1048576)
instance (p : Pt) : Decidable (ptOK p) := inferInstanceAs (Decidable (_ ∧ _))
theorem pt_eq {p q : Pt} : (p.x = q.x ∧ p.y = q.y ∧ True) ↔ p = q := by
  cases p; cases q; simp
theorem c_held (n : Int) : CallsG Tryz.prog 242 [i64 n] [] (i64 (clampI n (-1048576) 1048576)) [] := by
  refine calls_to tok mix Tryz.func242 rfl rfl rfl ?_
  refine CallV.to _ (c_clamp n _ _) rfl ?_
  exact .refl

theorem c_hold (p : Pt) : CallsG Tryz.prog 178 [.agg (ptE p)] [] (.agg [i64 (clampI p.x (-1048576) 1048576), i64 (clampI p.y (-1048576) 1048576)]) [] := by
  refine calls_to tok mix Tryz.func178 rfl rfl rfl ?_
  refine Dr.mk (by decide +kernel) ?_
  refine CallV.to _ (c_held p.x) rfl ?_
  refine CallV.to _ (c_held p.y) rfl ?_
  exact .refl

theorem c_vvalid (p : Pt) : CallsG Tryz.prog 121 [.agg (ptE p)] [] (pr (ptOK p)) [] := by
  refine calls_to tok mix Tryz.func121 rfl rfl rfl ?_
  refine Dr.mk (by decide +kernel) ?_
  refine CallV.to _ (c_hold p) rfl ?_
  refine LE_pr (p := clampI p.x (-1048576) 1048576 = p.x ∧ clampI p.y (-1048576) 1048576 = p.y ∧ True) ?_
  rw [clamp_eq (by decide), clamp_eq (by decide)]
  exact ⟨fun h => ⟨h.1, h.2.1⟩, fun h => ⟨h.1, h.2, trivial⟩⟩

theorem c_ptvalid' (p : Pt) : CallsG Tryz.prog 210 [.agg (ptE p)] [] (pr (ptOK p)) [] := by
  refine calls_to tok mix Tryz.func210 rfl rfl rfl ?_
  refine Br.mk (fun h1 => ?_) (fun h1 => LE_false (fun h => h1 h.1.1))
  refine Br.mk (fun h2 => ?_) (fun h2 => LE_false (fun h => h2 h.1.2))
  refine Br.mk (fun h3 => ?_) (fun h3 => LE_false (fun h => h3 h.2.1))
  exact LE_pr ⟨fun h4 => ⟨⟨h1, h2⟩, ⟨h3, h4⟩⟩, fun h => h.2.2⟩

end Go.Gs
/- Positions held in a range; the way from a point. -/
namespace Go.Gs
open Go.Proofs

def cpI (z : Int) : Int := max (-1099511627776) (min 1099511627776 z)
theorem cpI_r64 (z : Int) : R64 (cpI z) := by unfold cpI R64; omega

theorem c_clamped (a : BI) (ha : a.mag.length ≤ 100000000) : CallsG Tryz.prog 244 [.agg (biE a)] [] (i64 (cpI a.v)) [] := by
  refine calls_deferred tok mix Tryz.func244 rfl rfl rfl rfl rfl rfl Tryz.func288 rfl rfl ?_
  refine ⟨_, rfl, rfl, rfl, ?_⟩
  refine CallV.to _ (z_toint a (by omega)) rfl ?_
  refine ⟨rfl, ?_⟩
  refine Br.mk (fun h => ?_) (fun h => ?_)
  · refine LE_int ?_
    show max (-1099511627776) (min 1099511627776 (fitI a.v)) = _
    have : fitI a.v = a.v := by unfold fitI; rw [if_pos h]
    rw [this]; rfl
  · refine CallV.to _ (z_sign a (by omega)) rfl ?_
    have hs := @Int.sign_neg_iff a.v
    refine Br.mk (fun h2 => ?_) (fun h2 => ?_)
    · exact LE_int (by unfold cpI; omega)
    · exact LE_int (by unfold cpI; omega)

theorem c_cpos (a : BI) (ha : a.mag.length ≤ 100000000) : CallsG Tryz.prog 183 [.agg (biE a)] [] (i64 (cpI a.v)) [] := by
  refine calls_to tok mix Tryz.func183 rfl rfl rfl ?_
  refine CallV.to _ (c_clamped a ha) rfl ?_
  exact .refl

theorem c_cpos' (a : BI) (ha : a.mag.length ≤ 100000000) : CallsG Tryz.prog 215 [.agg (biE a)] [] (i64 (cpI a.v)) [] := by
  refine calls_to tok mix Tryz.func215 rfl rfl rfl ?_
  have l1 : (ofZ 1099511627776).mag.length ≤ 2 := zlen_i64 (n := 1099511627776) (by decide)
  have l2 : (ofZ (-1099511627776)).mag.length ≤ 2 := zlen_i64 (n := -1099511627776) (by decide)
  refine Dr.mk (by decide +kernel) ?_
  refine CallV.to _ (r2_fromint 1099511627776 (by decide)) rfl ?_
  refine CallV.to _ (r2_cmp a (ofZ 1099511627776) (by omega) (by omega)) rfl ?_
  rw [ofZ_v]
  have e1 := @Int.sign_pos_iff (a.v - 1099511627776)
  refine Br.mk (fun h => ?_) (fun h => ?_)
  · exact LE_int (by unfold cpI; omega)
  refine Dr.mk (by decide +kernel) ?_
  refine Ar.fit (by omega) ?_
  refine CallV.to _ (r2_fromint (-1099511627776) (by decide)) rfl ?_
  refine CallV.to _ (r2_cmp a (ofZ (-1099511627776)) (by omega) (by omega)) rfl ?_
  rw [ofZ_v]
  have e2 := @Int.sign_neg_iff (a.v - -1099511627776)
  refine Br.mk (fun h2 => ?_) (fun h2 => ?_)
  · refine Ar.fit (by omega) ?_
    exact LE_int (by unfold cpI; omega)
  refine CallV.to _ (r2_toint a (by omega)) rfl ?_
  refine LE_int ?_
  unfold fitI cpI
  rw [if_pos (by omega)]; omega

theorem q_addQ (x y : Rat) (hx : qlen x ≤ 10000) (hy : qlen y ≤ 10000) : CallsG Tryz.prog 115 [.agg (brE (ofQ x)), .agg (brE (ofQ y))] [] (.agg (brE (ofQ (x + y)))) [] := by
  have h := q_add (ofQ x) (ofQ y) (by rw [ofQ_len]; omega) (by rw [ofQ_len]; omega)
  rwa [ofQ_v, ofQ_v] at h
theorem q_subQ (x y : Rat) (hx : qlen x ≤ 10000) (hy : qlen y ≤ 10000) : CallsG Tryz.prog 181 [.agg (brE (ofQ x)), .agg (brE (ofQ y))] [] (.agg (brE (ofQ (x - y)))) [] := by
  have h := q_sub (ofQ x) (ofQ y) (by rw [ofQ_len]; omega) (by rw [ofQ_len]; omega)
  rwa [ofQ_v, ofQ_v] at h
theorem q_mulQ (x y : Rat) (hx : qlen x ≤ 10000) (hy : qlen y ≤ 10000) : CallsG Tryz.prog 173 [.agg (brE (ofQ x)), .agg (brE (ofQ y))] [] (.agg (brE (ofQ (x * y)))) [] := by
  have h := q_mul (ofQ x) (ofQ y) (by rw [ofQ_len]; omega) (by rw [ofQ_len]; omega)
  rwa [ofQ_v, ofQ_v] at h
theorem q_quoQ (x y : Rat) (hx : qlen x ≤ 10000) (hy : qlen y ≤ 10000) (h0 : y ≠ 0) : CallsG Tryz.prog 136 [.agg (brE (ofQ x)), .agg (brE (ofQ y))] [] (.tup [.agg (brE (ofQ (x / y))), i64 0]) [] := by
  have h := q_quo (ofQ x) (ofQ y) (by rw [ofQ_len]; omega) (by rw [ofQ_len]; omega) (by rw [ofQ_v]; exact h0)
  rwa [ofQ_v, ofQ_v] at h
theorem r3_addQ (x y : Rat) (hx : qlen x ≤ 10000) (hy : qlen y ≤ 10000) : CallsG Tryz.prog 207 [.agg (brE (ofQ x)), .agg (brE (ofQ y))] [] (.agg (brE (ofQ (x + y)))) [] := by
  have h := r3_add (ofQ x) (ofQ y) (by rw [ofQ_len]; omega) (by rw [ofQ_len]; omega)
  rwa [ofQ_v, ofQ_v] at h
theorem r3_subQ (x y : Rat) (hx : qlen x ≤ 10000) (hy : qlen y ≤ 10000) : CallsG Tryz.prog 213 [.agg (brE (ofQ x)), .agg (brE (ofQ y))] [] (.agg (brE (ofQ (x - y)))) [] := by
  have h := r3_sub (ofQ x) (ofQ y) (by rw [ofQ_len]; omega) (by rw [ofQ_len]; omega)
  rwa [ofQ_v, ofQ_v] at h
theorem r3_mulQ (x y : Rat) (hx : qlen x ≤ 10000) (hy : qlen y ≤ 10000) : CallsG Tryz.prog 214 [.agg (brE (ofQ x)), .agg (brE (ofQ y))] [] (.agg (brE (ofQ (x * y)))) [] := by
  have h := r3_mul (ofQ x) (ofQ y) (by rw [ofQ_len]; omega) (by rw [ofQ_len]; omega)
  rwa [ofQ_v, ofQ_v] at h
theorem r3_quoQ (x y : Rat) (hx : qlen x ≤ 10000) (hy : qlen y ≤ 10000) (h0 : y ≠ 0) : CallsG Tryz.prog 153 [.agg (brE (ofQ x)), .agg (brE (ofQ y))] [] (.tup [.agg (brE (ofQ (x / y))), i64 0]) [] := by
  have h := r3_quo (ofQ x) (ofQ y) (by rw [ofQ_len]; omega) (by rw [ofQ_len]; omega) (by rw [ofQ_v]; exact h0)
  rwa [ofQ_v, ofQ_v] at h
theorem q_floorQ (x : Rat) (hx : qlen x ≤ 10000) : CallsG Tryz.prog 184 [.agg (brE (ofQ x))] [] (.agg (biE (ofZ x.floor))) [] := by
  have h := q_floor (ofQ x) (by rw [ofQ_len]; omega)
  rwa [ofQ_v] at h
theorem r3_floorQ (x : Rat) (hx : qlen x ≤ 10000) : CallsG Tryz.prog 216 [.agg (brE (ofQ x))] [] (.agg (biE (ofZ x.floor))) [] := by
  have h := r3_floor (ofQ x) (by rw [ofQ_len]; omega)
  rwa [ofQ_v] at h
theorem r32_dot (x y u v : Rat) (hx : qlen x ≤ 1000) (hy : qlen y ≤ 1000) (hu : qlen u ≤ 1000) (hv : qlen v ≤ 1000) :
    CallsG Tryz.prog 212 [.agg (brE (ofQ x)), .agg (brE (ofQ y)), .agg (brE (ofQ u)), .agg (brE (ofQ v))] [] (.agg (brE (ofQ (x * u + y * v)))) [] := by
  have h1 := qlen_mul x u
  have h2 := qlen_mul y v
  refine calls_to tok mix Tryz.func212 rfl rfl rfl ?_
  refine Dr.mk (by decide +kernel) ?_
  refine CallV.to _ (r3_mulQ x u (by omega) (by omega)) rfl ?_
  refine CallV.to _ (r3_mulQ y v (by omega) (by omega)) rfl ?_
  refine CallV.to _ (r3_addQ (x * u) (y * v) (by omega) (by omega)) rfl ?_
  exact .refl

theorem qlen_i64 {n : Int} (h : R64 n) : qlen (n : Rat) ≤ 2 := by
  have h1 := qlen_int n
  have h2 := zlen_i64 h
  omega

theorem c_offset (a : Pt) (x y : Rat) (ha : ptOK a) (hx : qlen x ≤ 1000) (hy : qlen y ≤ 1000) :
    CallsG Tryz.prog 182 [.agg (ptE a), .agg (brE (ofQ x)), .agg (brE (ofQ y))] [] (.tup [.agg (brE (ofQ (x - (a.x : Rat)))), .agg (brE (ofQ (y - (a.y : Rat))))]) [] := by
  have rx : R64 a.x := by unfold R64; have := ha.1; omega
  have ry : R64 a.y := by unfold R64; have := ha.2; omega
  have lx := qlen_i64 rx
  have ly := qlen_i64 ry
  refine calls_to tok mix Tryz.func182 rfl rfl rfl ?_
  refine Dr.mk (by decide +kernel) ?_
  refine CallV.to _ (q_fromint a.x rx) rfl ?_
  refine CallV.to _ (q_subQ x (a.x : Rat) (by omega) (by omega)) rfl ?_
  refine CallV.to _ (q_fromint a.y ry) rfl ?_
  refine CallV.to _ (q_subQ y (a.y : Rat) (by omega) (by omega)) rfl ?_
  exact .refl

end Go.Gs
/- Positions along a line and by the distance from a point. -/
namespace Go.Gs
open Go.Proofs

theorem sq_pos {u v : Int} (h : ¬ (u = 0 ∧ v = 0)) : 1 ≤ u * u + v * v := by
  have hu := Int.natAbs_mul_self (a := u)
  have hv := Int.natAbs_mul_self (a := v)
  rcases Nat.eq_zero_or_pos u.natAbs with h1 | h1
  · rcases Nat.eq_zero_or_pos v.natAbs with h2 | h2
    · exact absurd ⟨by omega, by omega⟩ h
    · have := Nat.mul_pos h2 h2; omega
  · have := Nat.mul_pos h1 h1; omega
theorem sq_le {u : Int} (h : -2097152 ≤ u ∧ u ≤ 2097152) : 0 ≤ u * u ∧ u * u ≤ 4398046511104 := by
  have hu := Int.natAbs_mul_self (a := u)
  have : u.natAbs * u.natAbs ≤ 2097152 * 2097152 := Nat.mul_le_mul (by omega) (by omega)
  omega

def linF (a b : Pt) (x y : Rat) : Rat :=
  ((65536 : Int) : Rat) * ((x - (a.x : Rat)) * ((b.x - a.x : Int) : Rat) + (y - (a.y : Rat)) * ((b.y - a.y : Int) : Rat)) / (((b.x - a.x) * (b.x - a.x) + (b.y - a.y) * (b.y - a.y) : Int) : Rat)
def linP (a b : Pt) (x y : Rat) : Int := if a ≠ b ∧ ptOK a ∧ ptOK b then cpI (linF a b x y).floor else 65536

theorem lin_len {a b : Pt} {x y : Rat} (ha : ptOK a) (hb : ptOK b) (hne : a ≠ b) (hx : qlen x ≤ 100) (hy : qlen y ≤ 100) :
    (R64 a.x ∧ R64 a.y) ∧ (R64 (b.x - a.x) ∧ R64 (b.y - a.y)) ∧ (0 ≤ (b.x - a.x) * (b.x - a.x) ∧ (b.x - a.x) * (b.x - a.x) ≤ 4398046511104) ∧ (0 ≤ (b.y - a.y) * (b.y - a.y) ∧ (b.y - a.y) * (b.y - a.y) ≤ 4398046511104) ∧
    1 ≤ (b.x - a.x) * (b.x - a.x) + (b.y - a.y) * (b.y - a.y) ∧
    qlen (x - (a.x : Rat)) ≤ 103 ∧ qlen (y - (a.y : Rat)) ≤ 103 ∧ qlen ((b.x - a.x : Int) : Rat) ≤ 2 ∧ qlen ((b.y - a.y : Int) : Rat) ≤ 2 ∧
    qlen ((x - (a.x : Rat)) * ((b.x - a.x : Int) : Rat) + (y - (a.y : Rat)) * ((b.y - a.y : Int) : Rat)) ≤ 250 ∧
    qlen (((b.x - a.x) * (b.x - a.x) + (b.y - a.y) * (b.y - a.y) : Int) : Rat) ≤ 2 ∧ qlen (linF a b x y) ≤ 260 := by
  have hax := ha.1
  have hay := ha.2
  have hbx := hb.1
  have hby := hb.2
  have ru : R64 (b.x - a.x) := by unfold R64; omega
  have rv : R64 (b.y - a.y) := by unfold R64; omega
  have rx : R64 a.x := by unfold R64; omega
  have ry : R64 a.y := by unfold R64; omega
  have su := sq_le (u := b.x - a.x) (by omega)
  have sv := sq_le (u := b.y - a.y) (by omega)
  have hs := sq_pos (u := b.x - a.x) (v := b.y - a.y) (fun h => hne (pt_eq.1 ⟨by omega, by omega, trivial⟩))
  have rs : R64 ((b.x - a.x) * (b.x - a.x) + (b.y - a.y) * (b.y - a.y)) := by unfold R64; omega
  have l1 := qlen_sub x (a.x : Rat)
  have l2 := qlen_sub y (a.y : Rat)
  have l3 := qlen_i64 rx
  have l4 := qlen_i64 ry
  have l5 := qlen_i64 ru
  have l6 := qlen_i64 rv
  have l7 := qlen_i64 rs
  have l8 := qlen_mul (x - (a.x : Rat)) ((b.x - a.x : Int) : Rat)
  have l9 := qlen_mul (y - (a.y : Rat)) ((b.y - a.y : Int) : Rat)
  have l10 := qlen_add ((x - (a.x : Rat)) * ((b.x - a.x : Int) : Rat)) ((y - (a.y : Rat)) * ((b.y - a.y : Int) : Rat))
  have l11 := qlen_mul ((65536 : Int) : Rat) ((x - (a.x : Rat)) * ((b.x - a.x : Int) : Rat) + (y - (a.y : Rat)) * ((b.y - a.y : Int) : Rat))
  have l12 := qlen_i64 (n := 65536) (by decide)
  have hne0 : (((b.x - a.x) * (b.x - a.x) + (b.y - a.y) * (b.y - a.y) : Int) : Rat) ≠ 0 := fun h => by
    have := Rat.intCast_inj.1 (h.trans Rat.intCast_zero.symm); omega
  have l13 := qlen_div (((65536 : Int) : Rat) * ((x - (a.x : Rat)) * ((b.x - a.x : Int) : Rat) + (y - (a.y : Rat)) * ((b.y - a.y : Int) : Rat))) _ hne0
  refine ⟨⟨rx, ry⟩, ⟨ru, rv⟩, su, sv, hs, by omega, by omega, l5, l6, by omega, l7, ?_⟩
  unfold linF
  omega

theorem int_ne {z : Int} (h : 1 ≤ z) : (z : Rat) ≠ 0 := fun k => by
  have := Rat.intCast_inj.1 (k.trans Rat.intCast_zero.symm); omega

theorem c_linpos (a b : Pt) (x y : Rat) (hx : qlen x ≤ 100) (hy : qlen y ≤ 100) :
    CallsG Tryz.prog 128 [.agg (ptE a), .agg (ptE b), .agg (brE (ofQ x)), .agg (brE (ofQ y))] [] (i64 (linP a b x y)) [] := by
  refine calls_to tok mix Tryz.func128 rfl rfl rfl ?_
  refine Br.mk (fun h1 => LE_int (by rw [linP, if_neg (fun k => k.1 (pt_eq.1 h1))])) (fun h1 => ?_)
  refine CallV.to _ (c_vvalid a) rfl ?_
  refine Br.mk (fun h2 => LE_int (by rw [linP, if_neg (fun k => h2 k.2.1)])) (fun h2 => ?_)
  refine CallV.to _ (c_vvalid b) rfl ?_
  refine Br.mk (fun h3 => LE_int (by rw [linP, if_neg (fun k => h3 k.2.2)])) (fun h3 => ?_)
  have ha := Decidable.not_not.1 h2
  have hb := Decidable.not_not.1 h3
  have hne : a ≠ b := fun k => h1 (pt_eq.2 k)
  obtain ⟨⟨l1, l2⟩, ⟨l3, l4⟩, l5, l6, l7, l8, l9, l10, l11, l12, l13, l14⟩ := lin_len ha hb hne hx hy
  refine Dr.mk (by decide +kernel) ?_
  have hax := ha.1
  have hay := ha.2
  have hbx := hb.1
  have hby := hb.2
  refine Ar.fit (by omega) ?_
  refine Ar.fit (by omega) ?_
  refine CallV.to _ (c_offset a x y ha (by omega) (by omega)) rfl ?_
  refine Dr.mk (by decide +kernel) ?_
  refine CallV.to _ (q_fromint (b.x - a.x) l3) rfl ?_
  refine CallV.to _ (q_mulQ (x - (a.x : Rat)) ((b.x - a.x : Int) : Rat) (by omega) (by omega)) rfl ?_
  refine CallV.to _ (q_fromint (b.y - a.y) l4) rfl ?_
  refine CallV.to _ (q_mulQ (y - (a.y : Rat)) ((b.y - a.y : Int) : Rat) (by omega) (by omega)) rfl ?_
  have m1 := qlen_mul (x - (a.x : Rat)) ((b.x - a.x : Int) : Rat)
  have m2 := qlen_mul (y - (a.y : Rat)) ((b.y - a.y : Int) : Rat)
  refine CallV.to _ (q_addQ _ _ (by omega) (by omega)) rfl ?_
  refine Dr.mk (by decide +kernel) ?_
  have l65 := qlen_i64 (n := 65536) (by decide)
  refine CallV.to _ (q_fromint 65536 (by decide)) rfl ?_
  refine CallV.to _ (q_mulQ ((65536 : Int) : Rat) _ (by omega) (by omega)) rfl ?_
  refine Ar.fit (by omega) ?_
  refine Ar.fit (by omega) ?_
  refine Ar.fit (by omega) ?_
  refine CallV.to _ (q_fromint ((b.x - a.x) * (b.x - a.x) + (b.y - a.y) * (b.y - a.y)) (by unfold R64; omega)) rfl ?_
  have m3 := qlen_mul ((65536 : Int) : Rat) ((x - (a.x : Rat)) * ((b.x - a.x : Int) : Rat) + (y - (a.y : Rat)) * ((b.y - a.y : Int) : Rat))
  refine CallV.to _ (q_quoQ (((65536 : Int) : Rat) * ((x - (a.x : Rat)) * ((b.x - a.x : Int) : Rat) + (y - (a.y : Rat)) * ((b.y - a.y : Int) : Rat))) (((b.x - a.x) * (b.x - a.x) + (b.y - a.y) * (b.y - a.y) : Int) : Rat) (by omega) (by omega) (int_ne l7)) rfl ?_
  refine CallV.to _ (q_floorQ (linF a b x y) (by omega)) rfl ?_
  refine CallV.to _ (c_cpos (ofZ (linF a b x y).floor) (by have := floor_len (linF a b x y); show zlen _ ≤ _; omega)) rfl ?_
  exact LE_int (by rw [linP, if_pos ⟨hne, ha, hb⟩, ofZ_v])

theorem c_hold' (p : Pt) : CallsG Tryz.prog 263 [.agg (ptE p)] [] (.agg [i64 (clampI p.x (-1048576) 1048576), i64 (clampI p.y (-1048576) 1048576)]) [] := by
  refine calls_to tok mix Tryz.func263 rfl rfl rfl ?_
  refine Dr.mk (by decide +kernel) ?_
  refine CallV.to _ (c_clamp' p.x _ _) rfl ?_
  refine CallV.to _ (c_clamp' p.y _ _) rfl ?_
  exact .refl

theorem c_psub' (p q : Pt) (hp : ptOK p) (hq : ptOK q) : CallsG Tryz.prog 211 [.agg (ptE p), .agg (ptE q)] [] (.agg (ptE ⟨p.x - q.x, p.y - q.y⟩)) [] := by
  refine calls_to tok mix Tryz.func211 rfl rfl rfl ?_
  have h1 := (clamp_eq (n := p.x) (lo := -1048576) (hi := 1048576) (by decide)).2 hp.1
  have h2 := (clamp_eq (n := p.y) (lo := -1048576) (hi := 1048576) (by decide)).2 hp.2
  have h3 := (clamp_eq (n := q.x) (lo := -1048576) (hi := 1048576) (by decide)).2 hq.1
  have h4 := (clamp_eq (n := q.y) (lo := -1048576) (hi := 1048576) (by decide)).2 hq.2
  have c1 := c_hold' p
  have c2 := c_hold' q
  rw [h1, h2] at c1
  rw [h3, h4] at c2
  have := hp.1
  have := hp.2
  have := hq.1
  have := hq.2
  refine Dr.mk (by decide +kernel) ?_
  refine CallV.to _ c1 rfl ?_
  refine CallV.to _ c2 rfl ?_
  refine Ar.fit (by omega) ?_
  refine Ar.fit (by omega) ?_
  exact .refl

theorem c_linpos' (a b : Pt) (x y : Rat) (hx : qlen x ≤ 100) (hy : qlen y ≤ 100) :
    CallsG Tryz.prog 151 [.agg (ptE a), .agg (ptE b), .agg (brE (ofQ x)), .agg (brE (ofQ y))] [] (i64 (linP a b x y)) [] := by
  refine calls_to tok mix Tryz.func151 rfl rfl rfl ?_
  refine CallV.to _ (c_ptvalid' a) rfl ?_
  refine Br.mk (fun h2 => LE_int (by rw [linP, if_neg (fun k => h2 k.2.1)])) (fun h2 => ?_)
  refine CallV.to _ (c_ptvalid' b) rfl ?_
  refine Br.mk (fun h3 => LE_int (by rw [linP, if_neg (fun k => h3 k.2.2)])) (fun h3 => ?_)
  refine Br.mk (fun h1 => LE_int (by rw [linP, if_neg (fun k => k.1 (pt_eq.1 h1))])) (fun h1 => ?_)
  have ha := Decidable.not_not.1 h2
  have hb := Decidable.not_not.1 h3
  have hne : a ≠ b := fun k => h1 (pt_eq.2 k)
  obtain ⟨⟨l1, l2⟩, ⟨l3, l4⟩, l5, l6, l7, l8, l9, l10, l11, l12, l13, l14⟩ := lin_len ha hb hne hx hy
  have lx := qlen_i64 l1
  have ly := qlen_i64 l2
  refine CallV.to _ (c_psub' b a hb ha) rfl ?_
  refine Dr.mk (by decide +kernel) ?_
  refine CallV.to _ (r3_fromInt (b.x - a.x) l3) rfl ?_
  refine CallV.to _ (r3_fromInt (b.y - a.y) l4) rfl ?_
  refine Dr.mk (by decide +kernel) ?_
  refine CallV.to _ (r3_fromInt a.x l1) rfl ?_
  refine CallV.to _ (r3_subQ x (a.x : Rat) (by omega) (by omega)) rfl ?_
  refine CallV.to _ (r3_fromInt a.y l2) rfl ?_
  refine CallV.to _ (r3_subQ y (a.y : Rat) (by omega) (by omega)) rfl ?_
  refine CallV.to _ (r32_dot (x - (a.x : Rat)) (y - (a.y : Rat)) ((b.x - a.x : Int) : Rat) ((b.y - a.y : Int) : Rat) (by omega) (by omega) (by omega) (by omega)) rfl ?_
  refine Dr.mk (by decide +kernel) ?_
  have l65 := qlen_i64 (n := 65536) (by decide)
  refine CallV.to _ (r3_fromInt 65536 (by decide)) rfl ?_
  refine CallV.to _ (r3_mulQ ((65536 : Int) : Rat) _ (by omega) (by omega)) rfl ?_
  have hd := r32_dot ((b.x - a.x : Int) : Rat) ((b.y - a.y : Int) : Rat) ((b.x - a.x : Int) : Rat) ((b.y - a.y : Int) : Rat) (by omega) (by omega) (by omega) (by omega)
  rw [← Rat.intCast_mul, ← Rat.intCast_mul, ← Rat.intCast_add] at hd
  refine CallV.to _ hd rfl ?_
  have m3 := qlen_mul ((65536 : Int) : Rat) ((x - (a.x : Rat)) * ((b.x - a.x : Int) : Rat) + (y - (a.y : Rat)) * ((b.y - a.y : Int) : Rat))
  refine CallV.to _ (r3_quoQ (((65536 : Int) : Rat) * ((x - (a.x : Rat)) * ((b.x - a.x : Int) : Rat) + (y - (a.y : Rat)) * ((b.y - a.y : Int) : Rat))) (((b.x - a.x) * (b.x - a.x) + (b.y - a.y) * (b.y - a.y) : Int) : Rat) (by omega) (by omega) (int_ne l7)) rfl ?_
  refine CallV.to _ (r3_floorQ (linF a b x y) (by omega)) rfl ?_
  refine CallV.to _ (c_cpos' (ofZ (linF a b x y).floor) (by have := floor_len (linF a b x y); show zlen _ ≤ _; omega)) rfl ?_
  exact LE_int (by rw [linP, if_pos ⟨hne, ha, hb⟩, ofZ_v])

end Go.Gs
