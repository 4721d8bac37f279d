/- The other text's rationals. -/
import Derived.Test.YtoggmkhegbfjfaaGreatMAM
import Derived.Test.YtoggmkhegbfjfaaGreatMAI
import Derived.Test.YtoggmkhegbfjfaaGreatMAK
import Derived.Test.YtoggmkhegbfjfaaGreatMAL
namespace Go.Gs
open Go.Proofs

theorem r3_fromInt (n : Int) (hn : R64 n) : CallsG Tryz.prog 34 [i64 n] [] (.agg (brE (ofQ (n : Rat)))) [] := by
  refine calls_to tok mix Tryz.func34 rfl rfl rfl ?_
  refine CallV.to _ (r2_fromint n hn) rfl ?_
  refine CallV.to _ (r2_fromint 1 (by decide)) rfl ?_
  have e : ofQ (n : Rat) = ⟨ofZ n, ofZ 1⟩ := by unfold ofQ; rw [Rat.num_intCast, Rat.den_intCast]; rfl
  rw [e]
  exact .refl

theorem natAbs_quo {n : Int} {g : Nat} : zlen (n / (g : Int)) ≤ zlen n := zlen_mono (Int.natAbs_ediv_le_natAbs _ _)
set_option maxRecDepth 100000 in
set_option maxHeartbeats 1000000 in
theorem r3_reduce (n d : BI) (hn : n.mag.length ≤ 200000000) (hd : d.mag.length ≤ 200000000) (h0 : d.v ≠ 0) :
    CallsG Tryz.prog 159 [.agg (biE n), .agg (biE d)] [] (.agg (brE (ofQ (Rat.divInt n.v d.v)))) [] := by
  refine calls_to tok mix Tryz.func159 rfl rfl rfl ?_
  refine CallV.to _ (r1_gcd n.mag d.mag (by omega) (by omega)) rfl ?_
  have hdz : val d.mag ≠ 0 := by rw [← d.v_abs]; omega
  have hg0 : 0 < Nat.gcd (val n.mag) (val d.mag) := Nat.gcd_pos_of_pos_right _ (by omega)
  have hgl : (digs (Nat.gcd (val n.mag) (val d.mag))).length ≤ 200000000 :=
    Nat.le_trans (digs_mono (Nat.gcd_le_right _ (by omega))) (Nat.le_trans (digs_val_len _) hd)
  have hnum := Rat.num_divInt n.v d.v
  have hden := Rat.den_divInt n.v d.v
  have hg : d.v.gcd n.v = Nat.gcd (val n.mag) (val d.mag) := by
    rw [← n.v_abs, ← d.v_abs]; exact Nat.gcd_comm _ _
  rw [hg] at hnum hden
  rw [if_neg h0] at hden
  have ln := zlen_v n
  have ld := zlen_v d
  generalize Nat.gcd (val n.mag) (val d.mag) = g at *
  refine CallV.to _ (r2_newF (digs g) (by omega)) rfl ?_
  rw [val_digs]
  have zg : zlen (g : Int) ≤ 200000000 := hgl
  have fin : ∀ N D : Int, N = d.v.sign * n.v → D = (d.v.natAbs : Int) → ofQ (Rat.divInt n.v d.v) = ⟨ofZ (N / (g : Int)), ofZ (D / (g : Int))⟩ := fun N D hN hD => by
    unfold ofQ; rw [hnum, hden, hN, hD]; rfl
  refine CallV.to _ (r2_sign d (by omega)) rfl ?_
  refine Br.mk (fun h => ?_) (fun h => ?_)
  · have hneg : d.v < 0 := by
      rcases Int.lt_trichotomy d.v 0 with k | k | k
      · exact k
      · exact absurd k h0
      · rw [Int.sign_eq_one_of_pos k] at h; omega
    refine CallV.to _ (r2_neg n (by omega)) rfl ?_
    refine CallV.to _ (r2_neg d (by omega)) rfl ?_
    refine CallV.to _ (r2_divmod (ofZ (-n.v)) (ofZ (g : Int)) (by rw [ofZ_len, zlen_neg]; omega) (by rw [ofZ_len]; omega) (by rw [ofZ_v]; omega)) rfl ?_
    refine CallV.to _ (r2_divmod (ofZ (-d.v)) (ofZ (g : Int)) (by rw [ofZ_len, zlen_neg]; omega) (by rw [ofZ_len]; omega) (by rw [ofZ_v]; omega)) rfl ?_
    rw [ofZ_v, ofZ_v, ofZ_v, fin (-n.v) (-d.v) (by rw [Int.sign_eq_neg_one_of_neg hneg]; omega) (by omega)]
    exact .refl
  · have hpos : 0 < d.v := by
      rcases Int.lt_trichotomy d.v 0 with k | k | k
      · rw [Int.sign_eq_neg_one_of_neg k] at h; omega
      · exact absurd k h0
      · exact k
    refine CallV.to _ (r2_divmod n (ofZ (g : Int)) (by omega) (by rw [ofZ_len]; omega) (by rw [ofZ_v]; omega)) rfl ?_
    refine CallV.to _ (r2_divmod d (ofZ (g : Int)) (by omega) (by rw [ofZ_len]; omega) (by rw [ofZ_v]; omega)) rfl ?_
    rw [ofZ_v, fin n.v d.v (by rw [Int.sign_eq_one_of_pos hpos]; omega) (by omega)]
    exact .refl

theorem r3_new (n d : BI) (hn : n.mag.length ≤ 200000000) (hd : d.mag.length ≤ 200000000) (h0 : d.v ≠ 0) :
    CallsG Tryz.prog 218 [.agg (biE n), .agg (biE d)] [] (.tup [.agg (brE (ofQ (Rat.divInt n.v d.v))), i64 0]) [] := by
  refine calls_to tok mix Tryz.func218 rfl rfl rfl ?_
  refine CallV.to _ (r2_sign d (by omega)) rfl ?_
  refine Br.mk (fun h => absurd (Int.sign_eq_zero_iff_zero.1 h) h0) (fun _ => ?_)
  refine CallV.to _ (r3_reduce n d hn hd h0) rfl ?_
  exact LE_tup2 .refl .refl

theorem r3_fromints (n d : Int) (hn : R64 n) (hd : R64 d) (h0 : d ≠ 0) : CallsG Tryz.prog 272 [i64 n, i64 d] [] (.tup [.agg (brE (ofQ (Rat.divInt n d))), i64 0]) [] := by
  refine calls_to tok mix Tryz.func272 rfl rfl rfl ?_
  have l1 := zlen_i64 hn
  have l2 := zlen_i64 hd
  refine CallV.to _ (r2_fromint n hn) rfl ?_
  refine CallV.to _ (r2_fromint d hd) rfl ?_
  refine CallV.to _ (r3_new (ofZ n) (ofZ d) (by rw [ofZ_len]; omega) (by rw [ofZ_len]; omega) (by rw [ofZ_v]; exact h0)) rfl ?_
  rw [ofZ_v, ofZ_v]
  exact LE_tup2 .refl .refl

theorem r3_normalize (a : BR) (ha : a.len ≤ 200000000) : CallsG Tryz.prog 103 [.agg (brE a)] [] (.agg (brE (ofQ a.v))) [] := by
  have h1 : a.num.mag.length ≤ a.len := Nat.le_max_left _ _
  have h2 : a.den.mag.length ≤ a.len := Nat.le_max_right _ _
  refine calls_to tok mix Tryz.func103 rfl rfl rfl ?_
  refine CallV.to _ (r2_sign a.den (by omega)) rfl ?_
  refine Br.mk (fun h => ?_) (fun h => ?_)
  · refine CallV.to _ (r3_fromInt 0 (by decide)) rfl ?_
    have e : a.v = ((0 : Int) : Rat) := by unfold BR.v; rw [Int.sign_eq_zero_iff_zero.1 h, Rat.divInt_zero]; rfl
    rw [e]
    exact .refl
  · refine CallV.to _ (r3_reduce a.num a.den (by omega) (by omega) (fun k => h (by rw [k]; rfl))) rfl ?_
    exact .refl

theorem r3_add (a b : BR) (ha : a.len ≤ 50000000) (hb : b.len ≤ 50000000) : CallsG Tryz.prog 207 [.agg (brE a), .agg (brE b)] [] (.agg (brE (ofQ (a.v + b.v)))) [] := by
  have h1 := qlen_v a
  have h2 := qlen_v b
  have h3 := ofQ_l a.v
  have h4 := ofQ_l b.v
  have n1 := qlen_num a.v
  have n2 := qlen_num b.v
  have d1 := qlen_den a.v
  have d2 := qlen_den b.v
  have m1 := zlen_mul a.v.num b.v.den
  have m2 := zlen_mul b.v.num a.v.den
  have m3 := zlen_mul a.v.den b.v.den
  have m4 := zlen_add (a.v.num * b.v.den) (b.v.num * a.v.den)
  refine calls_to tok mix Tryz.func207 rfl rfl rfl ?_
  refine Dr.mk (by decide +kernel) ?_
  refine CallV.to _ (r3_normalize a (by omega)) rfl ?_
  refine CallV.to _ (r3_normalize b (by omega)) rfl ?_
  refine Dr.mk (by decide +kernel) ?_
  refine CallV.to _ (r2_mul (ofQ a.v).num (ofQ b.v).den (by omega) (by omega)) rfl ?_
  refine CallV.to _ (r2_mul (ofQ b.v).num (ofQ a.v).den (by omega) (by omega)) rfl ?_
  rw [ofQ_num, ofQ_num, ofQ_den, ofQ_den]
  refine CallV.to _ (r2_add (ofZ (a.v.num * b.v.den)) (ofZ (b.v.num * a.v.den)) (by rw [ofZ_len]; omega) (by rw [ofZ_len]; omega)) rfl ?_
  rw [ofZ_v, ofZ_v]
  refine CallV.to _ (r2_mul (ofQ a.v).den (ofQ b.v).den (by omega) (by omega)) rfl ?_
  rw [ofQ_den, ofQ_den]
  refine CallV.to _ (r3_reduce (ofZ (a.v.num * b.v.den + b.v.num * a.v.den)) (ofZ (a.v.den * b.v.den)) (by rw [ofZ_len]; omega) (by rw [ofZ_len]; omega) (by rw [ofZ_v]; exact den_mul_ne _ _)) rfl ?_
  rw [ofZ_v, ofZ_v, q_add_eq]
  exact .refl

theorem r3_mul (a b : BR) (ha : a.len ≤ 50000000) (hb : b.len ≤ 50000000) : CallsG Tryz.prog 214 [.agg (brE a), .agg (brE b)] [] (.agg (brE (ofQ (a.v * b.v)))) [] := by
  have h1 := qlen_v a
  have h2 := qlen_v b
  have h3 := ofQ_l a.v
  have h4 := ofQ_l b.v
  have n1 := qlen_num a.v
  have n2 := qlen_num b.v
  have d1 := qlen_den a.v
  have d2 := qlen_den b.v
  have m1 := zlen_mul a.v.num b.v.num
  have m3 := zlen_mul a.v.den b.v.den
  refine calls_to tok mix Tryz.func214 rfl rfl rfl ?_
  refine Dr.mk (by decide +kernel) ?_
  refine CallV.to _ (r3_normalize a (by omega)) rfl ?_
  refine CallV.to _ (r3_normalize b (by omega)) rfl ?_
  refine Dr.mk (by decide +kernel) ?_
  refine CallV.to _ (r2_mul (ofQ a.v).num (ofQ b.v).num (by omega) (by omega)) rfl ?_
  refine CallV.to _ (r2_mul (ofQ a.v).den (ofQ b.v).den (by omega) (by omega)) rfl ?_
  rw [ofQ_num, ofQ_num, ofQ_den, ofQ_den]
  refine CallV.to _ (r3_reduce (ofZ (a.v.num * b.v.num)) (ofZ (a.v.den * b.v.den)) (by rw [ofZ_len]; omega) (by rw [ofZ_len]; omega) (by rw [ofZ_v]; exact den_mul_ne _ _)) rfl ?_
  rw [ofZ_v, ofZ_v, q_mul_eq]
  exact .refl

theorem r3_floor (a : BR) (ha : a.len ≤ 100000000) : CallsG Tryz.prog 216 [.agg (brE a)] [] (.agg (biE (ofZ a.v.floor))) [] := by
  have h1 := qlen_v a
  have h3 := ofQ_l a.v
  have h0 := a.v.den_nz
  refine calls_to tok mix Tryz.func216 rfl rfl rfl ?_
  refine CallV.to _ (r3_normalize a (by omega)) rfl ?_
  refine CallV.to _ (r2_divmod (ofQ a.v).num (ofQ a.v).den (by omega) (by omega) (by rw [ofQ_den]; omega)) rfl ?_
  rw [ofQ_num, ofQ_den, ← Rat.floor_def]
  exact .refl

theorem r3_bitlen (a : BR) (ha : a.len ≤ 100000000) : CallsG Tryz.prog 257 [.agg (brE a)] [] (i64 (qbits a.v)) [] := by
  have h1 := qlen_v a
  have h3 := ofQ_l a.v
  refine calls_to tok mix Tryz.func257 rfl rfl rfl ?_
  refine CallV.to _ (r3_normalize a (by omega)) rfl ?_
  refine Dr.mk (by decide +kernel) ?_
  refine CallV.to _ (r2_bitlen (ofQ a.v).num (by omega)) rfl ?_
  refine CallV.to _ (r2_bitlen (ofQ a.v).den (by omega)) rfl ?_
  rw [ofQ_num, ofQ_den, Int.natAbs_natCast]
  refine LE_int ?_
  unfold qbits
  simp only [maxL]
  omega

end Go.Gs
/- Integers, the program's: comparison. -/
namespace Go.Gs
open Go.Proofs

theorem z_cmp (a b : BI) (ha : a.mag.length ≤ 800000000) (hb : b.mag.length ≤ 800000000) : CallsG Tryz.prog 180 [.agg (biE a), .agg (biE b)] [] (i64 (a.v - b.v).sign) [] := by
  refine calls_to tok mix Tryz.func180 rfl rfl rfl ?_
  refine CallV.to _ (z_sub a b ha hb) rfl ?_
  have h1 := zlen_sub a.v b.v
  have h2 := zlen_v a
  have h3 := zlen_v b
  refine CallV.to _ (z_sign (ofZ (a.v - b.v)) (by rw [ofZ_len]; omega)) rfl ?_
  rw [ofZ_v]
  exact .refl

end Go.Gs
/- Rationals, the program's: difference, comparison. -/
namespace Go.Gs
open Go.Proofs

/-- How two rationals compare: -1, 0, 1. -/
def cmpQ (x y : Rat) : Int := (x.num * y.den - y.num * x.den).sign
theorem sign_range (z : Int) : -1 ≤ z.sign ∧ z.sign ≤ 1 := by
  rcases Int.lt_trichotomy z 0 with h | h | h
  · rw [Int.sign_eq_neg_one_of_neg h]; decide
  · subst h; decide
  · rw [Int.sign_eq_one_of_pos h]; decide
theorem sign_nonneg {z : Int} : 0 ≤ z.sign ↔ 0 ≤ z := by
  rcases Int.lt_trichotomy z 0 with h | h | h
  · rw [Int.sign_eq_neg_one_of_neg h]; omega
  · subst h; decide
  · rw [Int.sign_eq_one_of_pos h]; omega
theorem cmpQ_ge {x y : Rat} : 0 ≤ cmpQ x y ↔ y ≤ x := by
  rw [Rat.le_iff]; unfold cmpQ; rw [sign_nonneg]; omega
theorem cmpQ_neg (x y : Rat) : cmpQ y x = - cmpQ x y := by
  unfold cmpQ
  rw [show y.num * x.den - x.num * y.den = -(x.num * y.den - y.num * x.den) by omega, Int.sign_neg]
theorem cmpQ_le {x y : Rat} : cmpQ x y ≤ 0 ↔ x ≤ y := by
  have := cmpQ_ge (x := y) (y := x)
  rw [cmpQ_neg] at this
  rw [← this]; omega

theorem q_cmp (a b : BR) (ha : a.len ≤ 100000000) (hb : b.len ≤ 100000000) : CallsG Tryz.prog 124 [.agg (brE a), .agg (brE b)] [] (i64 (cmpQ a.v b.v)) [] := by
  have h1 := qlen_v a
  have h2 := qlen_v b
  have n1 := qlen_num a.v
  have n2 := qlen_num b.v
  have d1 := qlen_den a.v
  have d2 := qlen_den b.v
  have m1 := zlen_mul a.v.num b.v.den
  have m2 := zlen_mul b.v.num a.v.den
  refine calls_to tok mix Tryz.func124 rfl rfl rfl ?_
  refine CallV.to _ (q_cross a b (by omega) (by omega)) rfl ?_
  refine CallV.to _ (z_cmp (ofZ (a.v.num * b.v.den)) (ofZ (b.v.num * a.v.den)) (by rw [ofZ_len]; omega) (by rw [ofZ_len]; omega)) rfl ?_
  rw [ofZ_v, ofZ_v]
  exact .refl

theorem q_sub (a b : BR) (ha : a.len ≤ 50000000) (hb : b.len ≤ 50000000) : CallsG Tryz.prog 181 [.agg (brE a), .agg (brE b)] [] (.agg (brE (ofQ (a.v - b.v)))) [] := by
  have h1 := qlen_v a
  have h2 := qlen_v b
  have n1 := qlen_num a.v
  have n2 := qlen_num b.v
  have d1 := qlen_den a.v
  have d2 := qlen_den b.v
  have m1 := zlen_mul a.v.num b.v.den
  have m2 := zlen_mul b.v.num a.v.den
  have m3 := zlen_mul a.v.den b.v.den
  have m4 := zlen_sub (a.v.num * b.v.den) (b.v.num * a.v.den)
  refine calls_to tok mix Tryz.func181 rfl rfl rfl ?_
  refine CallV.to _ (q_cross a b (by omega) (by omega)) rfl ?_
  refine Dr.mk (by decide +kernel) ?_
  refine CallV.to _ (z_sub (ofZ (a.v.num * b.v.den)) (ofZ (b.v.num * a.v.den)) (by rw [ofZ_len]; omega) (by rw [ofZ_len]; omega)) rfl ?_
  rw [ofZ_v, ofZ_v]
  refine CallV.to _ (q_lowest (ofZ (a.v.num * b.v.den - b.v.num * a.v.den)) (ofZ (a.v.den * b.v.den)) (by rw [ofZ_len]; omega) (by rw [ofZ_len]; omega) (by rw [ofZ_v]; exact den_mul_ne _ _)) rfl ?_
  rw [ofZ_v, ofZ_v, q_sub_eq]
  exact .refl

theorem qlen_neg (x : Rat) : qlen (-x) = qlen x := by
  unfold qlen; rw [Rat.neg_num, Rat.neg_den, zlen_neg]
theorem qlen_sub (x y : Rat) : qlen (x - y) ≤ qlen x + qlen y + 1 := by
  have := qlen_add x (-y)
  rw [qlen_neg, ← Rat.sub_eq_add_neg] at this
  exact this

end Go.Gs
/- The other text's rationals: difference, comparison. -/
namespace Go.Gs
open Go.Proofs

theorem r2_cmp (a b : BI) (ha : a.mag.length ≤ 800000000) (hb : b.mag.length ≤ 800000000) : CallsG Tryz.prog 258 [.agg (biE a), .agg (biE b)] [] (i64 (a.v - b.v).sign) [] := by
  refine calls_to tok mix Tryz.func258 rfl rfl rfl ?_
  refine CallV.to _ (r2_sub a b ha hb) rfl ?_
  have h1 := zlen_sub a.v b.v
  have h2 := zlen_v a
  have h3 := zlen_v b
  refine CallV.to _ (r2_sign (ofZ (a.v - b.v)) (by rw [ofZ_len]; omega)) rfl ?_
  rw [ofZ_v]
  exact .refl

theorem r3_cmp (a b : BR) (ha : a.len ≤ 100000000) (hb : b.len ≤ 100000000) : CallsG Tryz.prog 203 [.agg (brE a), .agg (brE b)] [] (i64 (cmpQ a.v b.v)) [] := by
  have h1 := qlen_v a
  have h2 := qlen_v b
  have h3 := ofQ_l a.v
  have h4 := ofQ_l b.v
  have n1 := qlen_num a.v
  have n2 := qlen_num b.v
  have d1 := qlen_den a.v
  have d2 := qlen_den b.v
  have m1 := zlen_mul a.v.num b.v.den
  have m2 := zlen_mul b.v.num a.v.den
  refine calls_to tok mix Tryz.func203 rfl rfl rfl ?_
  refine Dr.mk (by decide +kernel) ?_
  refine CallV.to _ (r3_normalize a (by omega)) rfl ?_
  refine CallV.to _ (r3_normalize b (by omega)) rfl ?_
  refine Dr.mk (by decide +kernel) ?_
  refine CallV.to _ (r2_mul (ofQ a.v).num (ofQ b.v).den (by omega) (by omega)) rfl ?_
  refine CallV.to _ (r2_mul (ofQ b.v).num (ofQ a.v).den (by omega) (by omega)) rfl ?_
  rw [ofQ_num, ofQ_num, ofQ_den, ofQ_den]
  refine CallV.to _ (r2_cmp (ofZ (a.v.num * b.v.den)) (ofZ (b.v.num * a.v.den)) (by rw [ofZ_len]; omega) (by rw [ofZ_len]; omega)) rfl ?_
  rw [ofZ_v, ofZ_v]
  exact .refl

theorem ofQ_neg (x : Rat) : ofQ (-x) = ⟨ofZ (-x.num), ofZ x.den⟩ := by unfold ofQ; rw [Rat.neg_num, Rat.neg_den]
theorem r3_neg (a : BR) (ha : a.len ≤ 100000000) : CallsG Tryz.prog 205 [.agg (brE a)] [] (.agg (brE (ofQ (-a.v)))) [] := by
  have h1 := qlen_v a
  have h3 := ofQ_l a.v
  refine calls_to tok mix Tryz.func205 rfl rfl rfl ?_
  refine CallV.to _ (r3_normalize a (by omega)) rfl ?_
  refine Dr.mk (by decide +kernel) ?_
  refine CallV.to _ (r2_neg (ofQ a.v).num (by omega)) rfl ?_
  rw [ofQ_num, ofQ_neg]
  exact .refl

theorem r3_sub (a b : BR) (ha : a.len ≤ 40000000) (hb : b.len ≤ 40000000) : CallsG Tryz.prog 213 [.agg (brE a), .agg (brE b)] [] (.agg (brE (ofQ (a.v - b.v)))) [] := by
  have h2 := qlen_v b
  refine calls_to tok mix Tryz.func213 rfl rfl rfl ?_
  refine Dr.mk (by decide +kernel) ?_
  refine CallV.to _ (r3_neg b (by omega)) rfl ?_
  refine CallV.to _ (r3_add a (ofQ (-b.v)) (by omega) (by rw [ofQ_len, qlen_neg]; omega)) rfl ?_
  rw [ofQ_v, ← Rat.sub_eq_add_neg]
  exact .refl

end Go.Gs
/- More of numbers: the low bits of an integer. -/
namespace Go.Gs

theorem and_low {q : Int} (k : Nat) (hk : k ≤ 32) : bitsK .and .i64 q (2 ^ k - 1) = q % 2 ^ k := by
  have hp : (2 : Int) ^ k ≤ 2 ^ 32 := by
    have := Nat.pow_le_pow_right (show 0 < 2 by decide) hk
    exact_mod_cast this
  have hp0 : (1 : Int) ≤ 2 ^ k := by
    have := Nat.one_le_two_pow (n := k)
    exact_mod_cast this
  have hpn : (2 : Nat) ^ k ≤ 2 ^ 32 := Nat.pow_le_pow_right (by decide) hk
  have hpn0 := Nat.one_le_two_pow (n := k)
  have hc : ((2 ^ k : Nat) : Int) = (2 : Int) ^ k := by exact_mod_cast rfl
  have e : (BitVec.ofInt 64 q &&& BitVec.ofInt 64 (2 ^ k - 1)).toNat = (q % 2 ^ k).toNat := by
    rw [BitVec.toNat_and]
    have h1 : (BitVec.ofInt 64 ((2 : Int) ^ k - 1)).toNat = 2 ^ k - 1 := by
      rw [BitVec.toNat_ofInt]; omega
    rw [h1, Nat.and_two_pow_sub_one_eq_mod, BitVec.toNat_ofInt]
    have hd : ((2 : Int) ^ k) ∣ (2 : Int) ^ 64 := ⟨2 ^ (64 - k), by rw [← Int.pow_add]; congr 1; omega⟩
    have h2 : (q % (2 : Int) ^ 64) % 2 ^ k = q % 2 ^ k := Int.emod_emod_of_dvd q hd
    have h3 := Int.emod_nonneg q (show (2 : Int) ^ 64 ≠ 0 by decide)
    have h4 := Int.emod_nonneg q (show (2 : Int) ^ k ≠ 0 by omega)
    have h5 : (((q % (2 : Int) ^ 64).toNat % 2 ^ k : Nat) : Int) = q % 2 ^ k := by
      rw [Int.natCast_emod, hc, Int.toNat_of_nonneg h3, h2]
    show (q % ((2 ^ 64 : Nat) : Int)).toNat % 2 ^ k = _
    have h6 : ((2 ^ 64 : Nat) : Int) = (2 : Int) ^ 64 := by decide
    rw [h6]
    omega
  show IntKind.i64.wrap ((BitVec.ofInt 64 q &&& BitVec.ofInt 64 (2 ^ k - 1)).toNat : Nat) = _
  rw [e]
  have h4 := Int.emod_nonneg q (show (2 : Int) ^ k ≠ 0 by omega)
  have h5 := Int.emod_lt_of_pos q (show (0 : Int) < 2 ^ k by omega)
  rw [Int.toNat_of_nonneg h4]
  generalize q % 2 ^ k = z at *
  simp only [IntKind.wrap, IntKind.bits, IntKind.signed]
  simp
  omega

end Go.Gs
/- Samples of a picture, the program's. -/
namespace Go.Gs
open Go.Proofs

theorem and_255 {q : Int} : bitsK .and .i64 q 255 = q % 256 := and_low (q := q) 8 (by decide)
theorem int_len {n : Int} (h : R64 n) : (ofQ (n : Rat)).len ≤ 2 := by
  have h1 := qlen_int n
  have h2 := zlen_i64 h
  rw [ofQ_len]; omega
theorem floor_len (q : Rat) : zlen q.floor ≤ qlen q := Nat.le_trans (zlen_mono (by
    rw [Rat.floor_def]
    exact Int.natAbs_ediv_le_natAbs _ _)) (qlen_num q)

def nearQ (x : Rat) : Prop := ((-1073741824 : Int) : Rat) ≤ x ∧ x ≤ ((1073741824 : Int) : Rat)
instance (x : Rat) : Decidable (nearQ x) := inferInstanceAs (Decidable (_ ∧ _))

theorem c_inear (a : BR) (ha : a.len ≤ 10000000) : CallsG Tryz.prog 342 [.agg (brE a)] [] (pr (nearQ a.v)) [] := by
  have l1 := int_len (show R64 (-1073741824) by decide)
  have l2 := int_len (show R64 1073741824 by decide)
  refine calls_to tok mix Tryz.func342 rfl rfl rfl ?_
  refine Dr.mk (by decide +kernel) ?_
  refine CallV.to _ (q_fromint (-1073741824) (by decide)) rfl ?_
  refine CallV.to _ (q_cmp a (ofQ ((-1073741824 : Int) : Rat)) (by omega) (by omega)) rfl ?_
  rw [ofQ_v]
  refine Br.mk (fun h1 => ?_) (fun h1 => ?_)
  · refine CallV.to _ (q_fromint 1073741824 (by decide)) rfl ?_
    refine CallV.to _ (q_cmp a (ofQ ((1073741824 : Int) : Rat)) (by omega) (by omega)) rfl ?_
    rw [ofQ_v]
    exact LE_pr ⟨fun h2 => ⟨cmpQ_ge.1 h1, cmpQ_le.1 h2⟩, fun h => cmpQ_le.2 h.2⟩
  · exact LE_false fun h => h1 (cmpQ_ge.2 h.1)

/-- A coordinate rounded down. -/
def flo (x : Rat) : Int := fitI x.floor
theorem c_floor (a : BR) (ha : a.len ≤ 10000000) : CallsG Tryz.prog 346 [.agg (brE a)] [] (i64 (flo a.v)) [] := by
  have l1 := qlen_v a
  have l2 := floor_len a.v
  refine calls_to tok mix Tryz.func346 rfl rfl rfl ?_
  refine CallV.to _ (q_floor a (by omega)) rfl ?_
  refine CallV.to _ (z_toint (ofZ a.v.floor) (by rw [ofZ_len]; omega)) rfl ?_
  rw [ofZ_v]
  exact .refl
theorem fit_r64 (z : Int) : R64 (fitI z) := by
  unfold fitI R64; split <;> omega
theorem flo_r64 (x : Rat) : R64 (flo x) := fit_r64 _

theorem c_inearest (m : Img) (md : Int) (a b : BR) (hm : imgOK m) (ha : a.len ≤ 10000000) (hb : b.len ≤ 10000000) :
    CallsG Tryz.prog 344 [.agg (imgE m), i64 md, .agg (brE a), .agg (brE b)] [] (.agg (pixE (texelI m (flo a.v) (flo b.v) md))) [] := by
  refine calls_to tok mix Tryz.func344 rfl rfl rfl ?_
  refine Dr.mk (by decide +kernel) ?_
  refine CallV.to _ (c_floor a ha) rfl ?_
  refine CallV.to _ (c_floor b hb) rfl ?_
  refine CallV.to _ (c_texel0 m (flo a.v) (flo b.v) md hm (flo_r64 _) (flo_r64 _)) rfl ?_
  exact .refl

/-- 256 times the distance from the middle of the first pixel, rounded down. -/
def fineQ (x : Rat) : Int := flo (((256 : Int) : Rat) * (x - Rat.divInt 1 2))
theorem half_len : (ofQ (Rat.divInt 1 2)).len ≤ 1 := by decide +kernel
theorem c_smooth1 (a : BR) (ha : a.len ≤ 1000000) :
    CallsG Tryz.prog 345 [.agg (brE a), .ptr (brE (ofQ (Rat.divInt 1 2)))] [] (.tup [i64 (fineQ a.v / 256), i64 (fineQ a.v % 256)]) [] := by
  have l1 := int_len (show R64 256 by decide)
  have l2 := half_len
  have l3 := qlen_v a
  have l4 : qlen (Rat.divInt 1 2) ≤ 1 := half_len
  have l5 := qlen_sub a.v (Rat.divInt 1 2)
  have l6 : qlen ((256 : Int) : Rat) ≤ 2 := l1
  have l7 := qlen_mul ((256 : Int) : Rat) (a.v - Rat.divInt 1 2)
  refine calls_to tok mix Tryz.func345 rfl rfl rfl ?_
  refine Dr.mk (by decide +kernel) ?_
  refine CallV.to _ (q_fromint 256 (by decide)) rfl ?_
  refine CallV.to _ (q_sub a (ofQ (Rat.divInt 1 2)) (by omega) (by omega)) rfl ?_
  rw [ofQ_v]
  refine CallV.to _ (q_mul (ofQ ((256 : Int) : Rat)) (ofQ (a.v - Rat.divInt 1 2)) (by omega) (by rw [ofQ_len]; omega)) rfl ?_
  rw [ofQ_v, ofQ_v]
  refine CallV.to _ (c_floor (ofQ (((256 : Int) : Rat) * (a.v - Rat.divInt 1 2))) (by rw [ofQ_len]; omega)) rfl ?_
  rw [ofQ_v]
  refine Ob.mk (by decide) ?_
  refine ⟨_, and_255.symm, ?_⟩
  exact .refl

/-- The sums of four weighted numbers. -/
def accW (W V : Nat → Int) : Nat → Int
  | 0 => 0
  | n + 1 => accW W V n + W n * V n
def bR (s : Int) : Int := rdiv s 65536
theorem bR_range {s : Int} (h : 0 ≤ s ∧ s ≤ 16711680) : 0 ≤ bR s ∧ bR s ≤ 255 := by
  unfold bR rdiv
  rw [if_pos (by omega), show Int.natAbs 65536 = 65536 from rfl]
  omega
theorem c_by (s0 s1 s2 s3 s : Int) (c : Nat) (hc : [s0, s1, s2, s3][c]? = some s) (hs : 0 ≤ s ∧ s ≤ 16711680) : CallsG Tryz.prog 348 [i64 c, .ptr [i64 s0, i64 s1, i64 s2, i64 s3]] [] (u8 (bR s)) [] := by
  have hr := bR_range hs
  have fin : fitI (rdiv s 65536) = bR s := by
    unfold bR at *; unfold fitI; rw [if_pos (by omega)]
  have hc4 : c < 4 := (List.getElem?_eq_some_iff.1 hc).1
  have e : c = 0 ∨ c = 1 ∨ c = 2 ∨ c = 3 := by omega
  rcases e with rfl | rfl | rfl | rfl
  · cases hc
    refine calls_to tok mix Tryz.func348 rfl rfl rfl ?_
    refine CallV.to _ (c_divround s0 65536 (by unfold R64; omega) (by decide)) rfl ?_
    rw [fin]
    refine Ar.fit (by omega) ?_
    exact .refl
  · cases hc
    refine calls_to tok mix Tryz.func348 rfl rfl rfl ?_
    refine CallV.to _ (c_divround s1 65536 (by unfold R64; omega) (by decide)) rfl ?_
    rw [fin]
    refine Ar.fit (by omega) ?_
    exact .refl
  · cases hc
    refine calls_to tok mix Tryz.func348 rfl rfl rfl ?_
    refine CallV.to _ (c_divround s2 65536 (by unfold R64; omega) (by decide)) rfl ?_
    rw [fin]
    refine Ar.fit (by omega) ?_
    exact .refl
  · cases hc
    refine calls_to tok mix Tryz.func348 rfl rfl rfl ?_
    refine CallV.to _ (c_divround s3 65536 (by unfold R64; omega) (by decide)) rfl ?_
    rw [fin]
    refine Ar.fit (by omega) ?_
    exact .refl

end Go.Gs
/- Samples of a picture, the program's: between four pixels. -/
namespace Go.Gs
open Go.Proofs

def wgt (f g : Int) : Nat → Int
  | 0 => (256 - f) * (256 - g)
  | 1 => f * (256 - g)
  | 2 => (256 - f) * g
  | _ => f * g
def px4 (m : Img) (md i k : Int) (n : Nat) : Pix := texelI m (i + (n : Int) % 2) (k + (n : Int) / 2) md
def P8 (p : Pix) : Prop := R8 p.r ∧ R8 p.g ∧ R8 p.b ∧ R8 p.a
theorem texelI_P8 {m : Img} (h : ∀ q ∈ m.px, P8 q) (x y md : Int) : P8 (texelI m x y md) := by
  unfold texelI
  split
  · rw [List.getD_eq_getElem?_getD]
    cases hq : m.px[((wrapI y m.h md).1 * m.w + (wrapI x m.w md).1).toNat]? with
    | none => exact ⟨by decide, by decide, by decide, by decide⟩
    | some q => exact h q (List.mem_of_getElem? hq)
  · exact ⟨by decide, by decide, by decide, by decide⟩
theorem wgt_range {f g : Int} (hf : 0 ≤ f ∧ f ≤ 255) (hg : 0 ≤ g ∧ g ≤ 255) (n : Nat) : 0 ≤ wgt f g n ∧ wgt f g n ≤ 65536 := by
  have key : ∀ a b : Int, 0 ≤ a → a ≤ 256 → 0 ≤ b → b ≤ 256 → 0 ≤ a * b ∧ a * b ≤ 65536 := fun a b h1 h2 h3 h4 => by
    have h5 := Int.mul_nonneg h1 h3
    have h6 : a * b ≤ 256 * b := Int.mul_le_mul_of_nonneg_right h2 h3
    omega
  match n with
  | 0 => exact key _ _ (by omega) (by omega) (by omega) (by omega)
  | 1 => exact key _ _ (by omega) (by omega) (by omega) (by omega)
  | 2 => exact key _ _ (by omega) (by omega) (by omega) (by omega)
  | _ + 3 => exact key _ _ (by omega) (by omega) (by omega) (by omega)
theorem wgt_sum (f g : Int) : wgt f g 0 + wgt f g 1 + wgt f g 2 + wgt f g 3 = 65536 := by
  unfold wgt
  grind
theorem wv_range {w v : Int} (hw : 0 ≤ w ∧ w ≤ 65536) (hv : R8 v) : 0 ≤ w * v ∧ w * v ≤ w * 255 ∧ w * v ≤ 16711680 := by
  have h1 := Int.mul_nonneg hw.1 hv.1
  have h2 : w * v ≤ w * 255 := Int.mul_le_mul_of_nonneg_left hv.2 hw.1
  omega
theorem acc_range {W V : Nat → Int} (hw : ∀ n, 0 ≤ W n ∧ W n ≤ 65536) (hv : ∀ n, R8 (V n)) : ∀ n, 0 ≤ accW W V n ∧ accW W V n ≤ 16711680 * n
  | 0 => ⟨Int.le_refl _, Int.le_refl _⟩
  | n + 1 => by
    have h1 := acc_range hw hv n
    have h2 := wv_range (hw n) (hv n)
    unfold accW
    omega
theorem acc4 {f g : Int} (hf : 0 ≤ f ∧ f ≤ 255) (hg : 0 ≤ g ∧ g ≤ 255) {V : Nat → Int} (hv : ∀ n, R8 (V n)) : 0 ≤ accW (wgt f g) V 4 ∧ accW (wgt f g) V 4 ≤ 16711680 := by
  have h0 := wv_range (wgt_range hf hg 0) (hv 0)
  have h1 := wv_range (wgt_range hf hg 1) (hv 1)
  have h2 := wv_range (wgt_range hf hg 2) (hv 2)
  have h3 := wv_range (wgt_range hf hg 3) (hv 3)
  have hs := wgt_sum f g
  show 0 ≤ 0 + wgt f g 0 * V 0 + wgt f g 1 * V 1 + wgt f g 2 * V 2 + wgt f g 3 * V 3 ∧ 0 + wgt f g 0 * V 0 + wgt f g 1 * V 1 + wgt f g 2 * V 2 + wgt f g 3 * V 3 ≤ _
  generalize wgt f g 0 = w0 at *
  generalize wgt f g 1 = w1 at *
  generalize wgt f g 2 = w2 at *
  generalize wgt f g 3 = w3 at *
  omega
/-- The four sums behind some rounds. -/
def sumP (W : Nat → Int) (Q : Nat → Pix) (n : Nat) : Pix := ⟨accW W (fun j => (Q j).r) n, accW W (fun j => (Q j).g) n, accW W (fun j => (Q j).b) n, accW W (fun j => (Q j).a) n⟩
def smoothP (m : Img) (md : Int) (x y : Rat) : Pix :=
  let s := sumP (wgt (fineQ x % 256) (fineQ y % 256)) (px4 m md (fineQ x / 256) (fineQ y / 256)) 4
  ⟨bR s.r, bR s.g, bR s.b, bR s.a⟩
def compL (p : Pix) : List Int := [p.r, p.g, p.b, p.a]
def i64E (n : Int) : List SV := [i64 n]
def u8E (n : Int) : List SV := [u8 n]

set_option maxRecDepth 100000 in
set_option maxHeartbeats 4000000 in
theorem c_smooth (m : Img) (md : Int) (a b : BR) (hm : imgOK m) (h8 : ∀ q ∈ m.px, P8 q) (ha : a.len ≤ 1000000) (hb : b.len ≤ 1000000) :
    CallsG Tryz.prog 343 [.agg (imgE m), i64 md, .agg (brE a), .agg (brE b)] [] (.agg (pixE (smoothP m md a.v b.v))) [] := by
  refine calls_to tok mix Tryz.func343 rfl rfl rfl ?_
  refine CallV.to _ (q_fromints 1 2 (by decide) (by decide) (by decide)) rfl ?_
  refine CallV.to _ (c_smooth1 a ha) rfl ?_
  refine CallV.to _ (c_smooth1 b hb) rfl ?_
  unfold smoothP
  have ru := flo_r64 (((256 : Int) : Rat) * (a.v - Rat.divInt 1 2))
  have rv := flo_r64 (((256 : Int) : Rat) * (b.v - Rat.divInt 1 2))
  have eu : fineQ a.v = flo (((256 : Int) : Rat) * (a.v - Rat.divInt 1 2)) := rfl
  have ev : fineQ b.v = flo (((256 : Int) : Rat) * (b.v - Rat.divInt 1 2)) := rfl
  rw [← eu] at ru
  rw [← ev] at rv
  clear eu ev
  generalize fineQ a.v = u at *
  generalize fineQ b.v = v at *
  unfold R64 at ru rv
  have hi : -36028797018963968 ≤ u / 256 ∧ u / 256 ≤ 36028797018963967 := by omega
  have hk : -36028797018963968 ≤ v / 256 ∧ v / 256 ≤ 36028797018963967 := by omega
  have hf : 0 ≤ u % 256 ∧ u % 256 ≤ 255 := by omega
  have hg : 0 ≤ v % 256 ∧ v % 256 ≤ 255 := by omega
  generalize u / 256 = i at *
  generalize v / 256 = k at *
  generalize u % 256 = f at *
  generalize v % 256 = g at *
  have hW := wgt_range hf hg
  have w0 : 0 ≤ (256 - f) * (256 - g) ∧ (256 - f) * (256 - g) ≤ 65536 := hW 0
  have w1 : 0 ≤ f * (256 - g) ∧ f * (256 - g) ≤ 65536 := hW 1
  have w2 : 0 ≤ (256 - f) * g ∧ (256 - f) * g ≤ 65536 := hW 2
  have w3 : 0 ≤ f * g ∧ f * g ≤ 65536 := hW 3
  refine Ar.fit (by omega) ?_
  refine Ar.fit (by omega) ?_
  refine Ar.fit (by omega) ?_
  refine Ar.fit (by omega) ?_
  refine Ar.fit (by omega) ?_
  refine Ar.fit (by omega) ?_
  refine Ar.fit (by omega) ?_
  refine Ar.fit (by omega) ?_
  have hQ8 : ∀ n, P8 (px4 m md i k n) := fun n => texelI_P8 h8 _ _ _
  have hws : ∀ (n : Nat) x, [(256 - f) * (256 - g), f * (256 - g), (256 - f) * g, f * g][n]? = some x → x = wgt f g n := fun n x hx => by
    have : n < 4 := (List.getElem?_eq_some_iff.1 hx).1
    have e : n = 0 ∨ n = 1 ∨ n = 2 ∨ n = 3 := by omega
    rcases e with rfl | rfl | rfl | rfl <;> (cases hx; rfl)
  refine ⟨Int, i64E, [(256 - f) * (256 - g), f * (256 - g), (256 - f) * g, f * g], rfl, Ob.mk ⟨rfl, by decide, by decide, by decide, fun x _ => ⟨rfl, rfl, rfl⟩⟩ ?_⟩
  have hwl : [(256 - f) * (256 - g), f * (256 - g), (256 - f) * g, f * g].length = 4 := rfl
  generalize [(256 - f) * (256 - g), f * (256 - g), (256 - f) * g, f * g] = ws at *
  have hT : ∀ n, CallsG Tryz.prog 347 [.agg (imgE m), i64 (i + (n : Nat) % 2), i64 (k + (n : Nat) / 2), i64 md] [] (.agg (pixE (px4 m md i k n))) [] ∨ 4 ≤ n := fun n => by
    by_cases h : 4 ≤ n
    · exact .inr h
    · exact .inl (c_texel0 m _ _ md hm (by unfold R64; omega) (by unfold R64; omega))
  have aR := acc_range hW (fun n => (hQ8 n).1)
  have aG := acc_range hW (fun n => (hQ8 n).2.1)
  have aB := acc_range hW (fun n => (hQ8 n).2.2.1)
  have aA := acc_range hW (fun n => (hQ8 n).2.2.2)
  have oR := fun n => wv_range (hW n) (hQ8 n).1
  have oG := fun n => wv_range (hW n) (hQ8 n).2.1
  have oB := fun n => wv_range (hW n) (hQ8 n).2.2.1
  have oA := fun n => wv_range (hW n) (hQ8 n).2.2.2
  have tR := acc4 hf hg (fun n => (hQ8 n).1)
  have tG := acc4 hf hg (fun n => (hQ8 n).2.1)
  have tB := acc4 hf hg (fun n => (hQ8 n).2.2.1)
  have tA := acc4 hf hg (fun n => (hQ8 n).2.2.2)
  generalize px4 m md i k = Q at *
  generalize wgt f g = W at *
  intro hl1
  refine ⟨Nat, fun n => ⟨[(58, i64 n), (57, i64 ws.length), (56, .own 6), (16, .loc 5 0), (14, i64 k), (12, i64 i), (8, .loc 3 0), (4, .loc 0 0), (1, i64 md)], [(6, .arr 3 i64E 1 ws), (5, .box 287 [i64 (sumP W Q n).r, i64 (sumP W Q n).g, i64 (sumP W Q n).b, i64 (sumP W Q n).a]), (3, .box 57 (pixE zeroP)), (0, .box 36 (imgE m))], 7, 110, 0⟩, fun n => n ≤ 4, fun n => 4 - n, 0, Nat.zero_le _, ?_, ?_⟩
  · exact sub_of [(0, some 0), (3, some 3), (5, some 5), (6, some 6)] rfl rfl rfl ⟨rfl, rfl, rfl, rfl, rfl, rfl, rfl, rfl, rfl, trivial⟩ ⟨rfl, rfl, rfl, rfl, trivial⟩
  rintro n hn
  have hn : n ≤ 4 := hn
  refine Br.mk (fun h1 => ?_) (fun h1 => ?_)
  · have h1 : n < 4 := by omega
    refine Ob.mk (by omega) ?_
    refine Ob.mk (by omega) ?_
    intro w hw
    have hw : ws[n]? = some w := hw
    have hw := hws n w hw
    subst hw
    refine ⟨_, and_one.symm, ?_⟩
    refine Ar.fit (by omega) ?_
    refine Ob.mk (by decide) ?_
    refine Ar.fit (by show _ ≤ k + (n : Int) / 2 ∧ k + (n : Int) / 2 ≤ _; omega) ?_
    refine CallV.to _ ((hT n).resolve_right (by omega)) rfl ?_
    refine ⟨Int, u8E, compL (Q n), rfl, Ob.mk ⟨rfl, by decide, by decide, by decide, fun x _ => ⟨rfl, rfl, rfl⟩⟩ ?_⟩
    intro hl2
    have h8n := hQ8 n
    have hc4 : (compL (Q n)).length = 4 := rfl
    refine ⟨Nat, fun c => ⟨[(84, i64 c), (83, i64 4), (82, .own 7), (18, i64 (W n)), (58, i64 n), (57, i64 ws.length), (56, .own 6), (16, .loc 5 0), (14, i64 k), (12, i64 i), (8, .loc 3 0), (4, .loc 0 0), (1, i64 md)], [(7, .arr 5 u8E 1 (compL (Q n))), (6, .arr 3 i64E 1 ws), (5, .box 287 [i64 (if 1 ≤ c then (sumP W Q (n + 1)).r else (sumP W Q n).r), i64 (if 2 ≤ c then (sumP W Q (n + 1)).g else (sumP W Q n).g), i64 (if 3 ≤ c then (sumP W Q (n + 1)).b else (sumP W Q n).b), i64 (if 4 ≤ c then (sumP W Q (n + 1)).a else (sumP W Q n).a)]), (3, .box 57 (pixE zeroP)), (0, .box 36 (imgE m))], 8, 110, 0⟩, fun c => c ≤ 4, fun c => 4 - c, 0, Nat.zero_le _, ?_, ?_⟩
    · exact sub_of [(0, some 0), (3, some 3), (5, some 5), (6, some 6), (7, some 8)] rfl rfl rfl ⟨rfl, rfl, rfl, rfl, rfl, rfl, rfl, rfl, rfl, rfl, rfl, rfl, rfl, trivial⟩ ⟨rfl, rfl, rfl, rfl, rfl, trivial⟩
    rintro c hc
    have hc : c ≤ 4 := hc
    have e : c = 0 ∨ c = 1 ∨ c = 2 ∨ c = 3 ∨ c = 4 := by omega
    rcases e with rfl | rfl | rfl | rfl | rfl

    · refine Br.mk (fun _ => ?_) (fun h => absurd (by decide) h)
      have h1 := aR n
      have h2 := oR n
      have h3 : R8 (Q n).r := h8n.1
      refine Ob.mk (by omega) ?_
      refine Ob.mk (by omega) ?_
      intro z hz
      cases hz
      refine Ar.fit (by unfold R8 at h3; omega) ?_
      refine Ar.fit (by omega) ?_
      refine Ar.fit (by show _ ≤ accW W (fun j => (Q j).r) n + W n * (Q n).r ∧ accW W (fun j => (Q j).r) n + W n * (Q n).r ≤ _; omega) ?_
      refine Ar.fit (by decide) ?_
      exact ⟨1, by show 1 ≤ 4; decide, sub_of [(0, some 0), (3, some 3), (5, some 5), (6, some 6), (7, some 7)] rfl rfl rfl ⟨rfl, rfl, rfl, rfl, rfl, rfl, rfl, rfl, rfl, rfl, rfl, rfl, rfl, trivial⟩ ⟨rfl, rfl, rfl, rfl, rfl, trivial⟩, by decide⟩
    · refine Br.mk (fun _ => ?_) (fun h => absurd (by decide) h)
      have h1 := aG n
      have h2 := oG n
      have h3 : R8 (Q n).g := h8n.2.1
      refine Ob.mk (by omega) ?_
      refine Ob.mk (by omega) ?_
      intro z hz
      cases hz
      refine Ar.fit (by unfold R8 at h3; omega) ?_
      refine Ar.fit (by omega) ?_
      refine Ar.fit (by show _ ≤ accW W (fun j => (Q j).g) n + W n * (Q n).g ∧ accW W (fun j => (Q j).g) n + W n * (Q n).g ≤ _; omega) ?_
      refine Ar.fit (by decide) ?_
      exact ⟨2, by show 2 ≤ 4; decide, sub_of [(0, some 0), (3, some 3), (5, some 5), (6, some 6), (7, some 7)] rfl rfl rfl ⟨rfl, rfl, rfl, rfl, rfl, rfl, rfl, rfl, rfl, rfl, rfl, rfl, rfl, trivial⟩ ⟨rfl, rfl, rfl, rfl, rfl, trivial⟩, by decide⟩
    · refine Br.mk (fun _ => ?_) (fun h => absurd (by decide) h)
      have h1 := aB n
      have h2 := oB n
      have h3 : R8 (Q n).b := h8n.2.2.1
      refine Ob.mk (by omega) ?_
      refine Ob.mk (by omega) ?_
      intro z hz
      cases hz
      refine Ar.fit (by unfold R8 at h3; omega) ?_
      refine Ar.fit (by omega) ?_
      refine Ar.fit (by show _ ≤ accW W (fun j => (Q j).b) n + W n * (Q n).b ∧ accW W (fun j => (Q j).b) n + W n * (Q n).b ≤ _; omega) ?_
      refine Ar.fit (by decide) ?_
      exact ⟨3, by show 3 ≤ 4; decide, sub_of [(0, some 0), (3, some 3), (5, some 5), (6, some 6), (7, some 7)] rfl rfl rfl ⟨rfl, rfl, rfl, rfl, rfl, rfl, rfl, rfl, rfl, rfl, rfl, rfl, rfl, trivial⟩ ⟨rfl, rfl, rfl, rfl, rfl, trivial⟩, by decide⟩
    · refine Br.mk (fun _ => ?_) (fun h => absurd (by decide) h)
      have h1 := aA n
      have h2 := oA n
      have h3 : R8 (Q n).a := h8n.2.2.2
      refine Ob.mk (by omega) ?_
      refine Ob.mk (by omega) ?_
      intro z hz
      cases hz
      refine Ar.fit (by unfold R8 at h3; omega) ?_
      refine Ar.fit (by omega) ?_
      refine Ar.fit (by show _ ≤ accW W (fun j => (Q j).a) n + W n * (Q n).a ∧ accW W (fun j => (Q j).a) n + W n * (Q n).a ≤ _; omega) ?_
      refine Ar.fit (by decide) ?_
      exact ⟨4, by show 4 ≤ 4; decide, sub_of [(0, some 0), (3, some 3), (5, some 5), (6, some 6), (7, some 7)] rfl rfl rfl ⟨rfl, rfl, rfl, rfl, rfl, rfl, rfl, rfl, rfl, rfl, rfl, rfl, rfl, trivial⟩ ⟨rfl, rfl, rfl, rfl, rfl, trivial⟩, by decide⟩
    · refine Br.mk (fun h => absurd h (by decide)) (fun _ => ?_)
      refine Ar.fit (by omega) ?_
      exact ⟨n + 1, by show n + 1 ≤ 4; omega, sub_of [(0, some 0), (3, some 3), (5, some 5), (6, some 6)] rfl rfl rfl ⟨rfl, rfl, rfl, rfl, rfl, rfl, rfl, rfl, rfl, trivial⟩ ⟨rfl, rfl, rfl, rfl, trivial⟩, by dsimp only; omega⟩
  · have hn4 : n = 4 := by omega
    subst hn4
    refine CallV.to _ (c_by _ _ _ _ (sumP W Q 4).r 0 rfl tR) rfl ?_
    refine CallV.to _ (c_by _ _ _ _ (sumP W Q 4).g 1 rfl tG) rfl ?_
    refine CallV.to _ (c_by _ _ _ _ (sumP W Q 4).b 2 rfl tB) rfl ?_
    refine CallV.to _ (c_by _ _ _ _ (sumP W Q 4).a 3 rfl tA) rfl ?_
    exact .refl

end Go.Gs
/- Colors: scaled by their share, and between two. -/
namespace Go.Gs
open Go.Proofs

def mul8 (a b : Int) : Int := (2 * a * b + 255) / 510
theorem mul8_range {a b : Int} (ha : R8 a) (hb : R8 b) : 0 ≤ a * b ∧ a * b ≤ 65025 ∧ 0 ≤ mul8 a b ∧ mul8 a b ≤ b ∧ mul8 a b ≤ 255 := by
  unfold R8 at ha hb
  have h1 : 0 ≤ a * b := Int.mul_nonneg (by omega) (by omega)
  have h2 : a * b ≤ 255 * b := Int.mul_le_mul_of_nonneg_right (by omega) (by omega)
  unfold mul8
  rw [Int.mul_assoc]
  omega
theorem mul8_rdiv {a b : Int} (ha : R8 a) (hb : R8 b) : fitI (rdiv (a * b) 255) = mul8 a b := by
  have h := mul8_range ha hb
  have e : rdiv (a * b) 255 = mul8 a b := by
    unfold rdiv mul8
    rw [if_pos (by omega), show Int.natAbs 255 = 255 from rfl, Int.mul_assoc]
    omega
  rw [e]; unfold fitI; rw [if_pos (by omega)]

theorem c_mul8 (a b : Int) (ha : R8 a) (hb : R8 b) : CallsG Tryz.prog 113 [u8 a, u8 b] [] (u8 (mul8 a b)) [] := by
  have h := mul8_range ha hb
  unfold R8 at ha hb
  refine calls_to tok mix Tryz.func113 rfl rfl rfl ?_
  refine Ar.fit (by omega) ?_
  refine Ar.fit (by omega) ?_
  refine Ar.fit (by omega) ?_
  refine CallV.to _ (c_divround (a * b) 255 (by unfold R64; omega) (by decide)) rfl ?_
  rw [mul8_rdiv ha hb]
  refine Ar.fit (by omega) ?_
  exact .refl

theorem c_mul8' (a b : Int) (ha : R8 a) (hb : R8 b) : CallsG Tryz.prog 142 [u8 a, u8 b] [] (u8 (mul8 a b)) [] := by
  have h := mul8_range ha hb
  have e : 2 * a * b = 2 * (a * b) := Int.mul_assoc ..
  unfold R8 at ha hb
  refine calls_to tok mix Tryz.func142 rfl rfl rfl ?_
  refine Ar.fit (by omega) ?_
  refine Ar.fit (by omega) ?_
  refine Ar.fit (by omega) ?_
  refine Ar.fit (by omega) ?_
  refine Ar.fit (by omega) ?_
  refine Dv.any (by omega : (510 : Int) ≠ 0) ?_
  have ht := tdm (m := 2 * a * b + 255) (n := 510) (by omega)
  refine Ar.fit (by unfold mul8 at h; omega) ?_
  refine Ar.fit (by unfold mul8 at h; omega) ?_
  refine LE_int ?_
  unfold mul8; omega

def preP (c : Pix) : Pix := ⟨mul8 c.r c.a, mul8 c.g c.a, mul8 c.b c.a, c.a⟩
theorem preP_ok {c : Pix} (h : P8 c) : pxOK (preP c) := ⟨(mul8_range h.1 h.2.2.2).2.2.2.1, (mul8_range h.2.1 h.2.2.2).2.2.2.1, (mul8_range h.2.2.1 h.2.2.2).2.2.2.1⟩
theorem preP_8 {c : Pix} (h : P8 c) : P8 (preP c) := by
  have h1 := mul8_range h.1 h.2.2.2
  have h2 := mul8_range h.2.1 h.2.2.2
  have h3 := mul8_range h.2.2.1 h.2.2.2
  exact ⟨⟨h1.2.2.1, h1.2.2.2.2⟩, ⟨h2.2.2.1, h2.2.2.2.2⟩, ⟨h3.2.2.1, h3.2.2.2.2⟩, h.2.2.2⟩

theorem c_pre1 (x : Int) (c : Pix) (hx : R8 x) (h : P8 c) : CallsG Tryz.prog 186 [u8 x, .ptr (pixE c)] [] (u8 (mul8 x c.a)) [] := by
  refine calls_to tok mix Tryz.func186 rfl rfl rfl ?_
  refine CallV.to _ (c_mul8 x c.a hx h.2.2.2) rfl ?_
  exact .refl

theorem c_eachp (p c : Pix) (hp : P8 p) (h : P8 c) : CallsG Tryz.prog 111 [.agg (pixE p), .fn 186 [.ptr (pixE c)]] [] (.agg [u8 (mul8 p.r c.a), u8 (mul8 p.g c.a), u8 (mul8 p.b c.a), u8 (mul8 p.a c.a)]) [] := by
  refine calls_to tok mix Tryz.func111 rfl rfl rfl ?_
  refine Dr.mk (by decide +kernel) ?_
  refine CallV.to _ (c_pre1 _ c hp.1 h) rfl ?_
  refine CallV.to _ (c_pre1 _ c hp.2.1 h) rfl ?_
  refine CallV.to _ (c_pre1 _ c hp.2.2.1 h) rfl ?_
  refine CallV.to _ (c_pre1 _ c hp.2.2.2 h) rfl ?_
  exact .refl

theorem c_premul (c : Pix) (h : P8 c) : CallsG Tryz.prog 131 [.agg (pixE c)] [] (.agg (pixE (preP c))) [] := by
  refine calls_to tok mix Tryz.func131 rfl rfl rfl ?_
  refine CallV.to _ (c_eachp ⟨c.r, c.g, c.b, 0⟩ c ⟨h.1, h.2.1, h.2.2.1, (by decide : R8 0)⟩ h) rfl ?_
  exact .refl

theorem c_premul' (c : Pix) (h : P8 c) : CallsG Tryz.prog 145 [.agg (pixE c)] [] (.agg (pixE (preP c))) [] := by
  refine calls_to tok mix Tryz.func145 rfl rfl rfl ?_
  refine Dr.mk (by decide +kernel) ?_
  refine CallV.to _ (c_mul8' c.r c.a h.1 h.2.2.2) rfl ?_
  refine CallV.to _ (c_mul8' c.g c.a h.2.1 h.2.2.2) rfl ?_
  refine CallV.to _ (c_mul8' c.b c.a h.2.2.1 h.2.2.2) rfl ?_
  exact .refl

def lerp1 (a b n d : Int) : Int := a + rdiv (n * (b - a)) d
theorem lerp1_range {a b n d : Int} (ha : R8 a) (hb : R8 b) (hn : 0 ≤ n ∧ n ≤ d) (hd : 1 ≤ d ∧ d ≤ 65536) :
    (-16711680 ≤ n * (b - a) ∧ n * (b - a) ≤ 16711680) ∧ (-255 ≤ rdiv (n * (b - a)) d ∧ rdiv (n * (b - a)) d ≤ 255) ∧ R8 (lerp1 a b n d) := by
  unfold R8 at *
  have key : ∀ w : Int, 0 ≤ w → w ≤ 255 → 0 ≤ n * w ∧ n * w ≤ d * w ∧ d * w ≤ 16711680 ∧ (2 * (n * w).natAbs + d.natAbs) / (2 * d.natAbs) ≤ w.natAbs := by
    intro w h0 h1
    have k1 : 0 ≤ n * w := Int.mul_nonneg hn.1 h0
    have k2 : n * w ≤ d * w := Int.mul_le_mul_of_nonneg_right hn.2 h0
    have k3 : d * w ≤ 65536 * 255 := Int.mul_le_mul hd.2 h1 h0 (by decide)
    refine ⟨k1, k2, by omega, ?_⟩
    have k4 : (n * w).natAbs ≤ d.natAbs * w.natAbs := by rw [← Int.natAbs_mul]; omega
    have k5 : (2 * (n * w).natAbs + d.natAbs) / (2 * d.natAbs) < w.natAbs + 1 := by
      rw [Nat.div_lt_iff_lt_mul (by omega)]
      have : (w.natAbs + 1) * (2 * d.natAbs) = 2 * (d.natAbs * w.natAbs) + 2 * d.natAbs := by grind
      omega
    omega
  by_cases hab : a ≤ b
  · obtain ⟨k1, k2, k3, k4⟩ := key (b - a) (by omega) (by omega)
    have hr : rdiv (n * (b - a)) d = (((2 * (n * (b - a)).natAbs + d.natAbs) / (2 * d.natAbs) : Nat) : Int) := by
      unfold rdiv; rw [if_pos (by omega)]
    generalize (2 * (n * (b - a)).natAbs + d.natAbs) / (2 * d.natAbs) = q at k4 hr
    unfold lerp1
    rw [hr]
    omega
  · obtain ⟨k1, k2, k3, k4⟩ := key (a - b) (by omega) (by omega)
    have e : n * (b - a) = -(n * (a - b)) := by grind
    have e2 : (n * (b - a)).natAbs = (n * (a - b)).natAbs := by rw [e, Int.natAbs_neg]
    have hr : rdiv (n * (b - a)) d = (((2 * (n * (b - a)).natAbs + d.natAbs) / (2 * d.natAbs) : Nat) : Int) ∨ rdiv (n * (b - a)) d = -(((2 * (n * (b - a)).natAbs + d.natAbs) / (2 * d.natAbs) : Nat) : Int) := by
      unfold rdiv; split
      · exact .inl rfl
      · exact .inr rfl
    have hneg : n * (b - a) = 0 ∨ rdiv (n * (b - a)) d = -(((2 * (n * (b - a)).natAbs + d.natAbs) / (2 * d.natAbs) : Nat) : Int) := by
      by_cases h0 : n * (b - a) = 0
      · exact .inl h0
      · right; unfold rdiv; rw [if_neg (by omega)]
    rw [e2] at hr hneg
    generalize hq : (2 * (n * (a - b)).natAbs + d.natAbs) / (2 * d.natAbs) = q at k4 hr hneg
    unfold lerp1
    rcases hneg with h0 | h0
    · have : q = 0 := by
        rw [← hq, show (n * (a - b)).natAbs = 0 by omega]
        exact Nat.div_eq_of_lt (by omega)
      omega
    · omega

theorem c_lerp1 (a b n d : Int) (ha : R8 a) (hb : R8 b) (hn : 0 ≤ n ∧ n ≤ d) (hd : 1 ≤ d ∧ d ≤ 65536) :
    CallsG Tryz.prog 338 [u8 a, u8 b, .ptr [i64 n], .ptr [i64 d]] [] (u8 (lerp1 a b n d)) [] := by
  obtain ⟨h1, h2, h3⟩ := lerp1_range ha hb hn hd
  have hf : fitI (rdiv (n * (b - a)) d) = rdiv (n * (b - a)) d := by unfold fitI; rw [if_pos (by omega)]
  unfold R8 lerp1 at *
  refine calls_to tok mix Tryz.func338 rfl rfl rfl ?_
  refine Ar.fit (by omega) ?_
  refine Ar.fit (by omega) ?_
  refine Ar.fit (by omega) ?_
  refine Ar.fit (by omega) ?_
  refine Ar.fit (by omega) ?_
  refine CallV.to _ (c_divround (n * (b - a)) d (by unfold R64; omega) (by unfold R64; omega)) rfl ?_
  rw [hf]
  refine Ar.fit (by omega) ?_
  refine Ar.fit (by omega) ?_
  exact .refl

theorem c_lerp1' (a b n d : Int) (ha : R8 a) (hb : R8 b) (hn : 0 ≤ n ∧ n ≤ d) (hd : 1 ≤ d ∧ d ≤ 65536) :
    CallsG Tryz.prog 299 [u8 a, u8 b, i64 n, i64 d] [] (u8 (lerp1 a b n d)) [] := by
  obtain ⟨h1, h2, h3⟩ := lerp1_range ha hb hn hd
  have hf : fitI (rdiv (n * (b - a)) d) = rdiv (n * (b - a)) d := by unfold fitI; rw [if_pos (by omega)]
  unfold R8 lerp1 at *
  refine calls_to tok mix Tryz.func299 rfl rfl rfl ?_
  refine Ar.fit (by omega) ?_
  refine Ar.fit (by omega) ?_
  refine Ar.fit (by omega) ?_
  refine Ar.fit (by omega) ?_
  refine Ar.fit (by omega) ?_
  refine CallV.to _ (r8_divround (n * (b - a)) d (by unfold R64; omega) (by unfold R64; omega)) rfl ?_
  rw [hf]
  refine Ar.fit (by omega) ?_
  refine Ar.fit (by omega) ?_
  exact .refl

def lerpC (a b : Pix) (n d : Int) : Pix := ⟨lerp1 a.r b.r n d, lerp1 a.g b.g n d, lerp1 a.b b.b n d, lerp1 a.a b.a n d⟩
theorem lerpC_8 {a b : Pix} {n d : Int} (ha : P8 a) (hb : P8 b) (hn : 0 ≤ n ∧ n ≤ d) (hd : 1 ≤ d ∧ d ≤ 65536) : P8 (lerpC a b n d) :=
  ⟨(lerp1_range ha.1 hb.1 hn hd).2.2, (lerp1_range ha.2.1 hb.2.1 hn hd).2.2, (lerp1_range ha.2.2.1 hb.2.2.1 hn hd).2.2, (lerp1_range ha.2.2.2 hb.2.2.2 hn hd).2.2⟩

theorem c_both (a b : Pix) (n d : Int) (ha : P8 a) (hb : P8 b) (hn : 0 ≤ n ∧ n ≤ d) (hd : 1 ≤ d ∧ d ≤ 65536) :
    CallsG Tryz.prog 337 [.agg (pixE a), .agg (pixE b), .fn 338 [.ptr [i64 n], .ptr [i64 d]]] [] (.agg (pixE (lerpC a b n d))) [] := by
  refine calls_to tok mix Tryz.func337 rfl rfl rfl ?_
  refine Dr.mk (by decide +kernel) ?_
  refine CallV.to _ (c_lerp1 _ _ n d ha.1 hb.1 hn hd) rfl ?_
  refine CallV.to _ (c_lerp1 _ _ n d ha.2.1 hb.2.1 hn hd) rfl ?_
  refine CallV.to _ (c_lerp1 _ _ n d ha.2.2.1 hb.2.2.1 hn hd) rfl ?_
  refine CallV.to _ (c_lerp1 _ _ n d ha.2.2.2 hb.2.2.2 hn hd) rfl ?_
  exact .refl

theorem c_lerpc (a b : Pix) (n d : Int) (ha : P8 a) (hb : P8 b) (hn : 0 ≤ n ∧ n ≤ d) (hd : 1 ≤ d ∧ d ≤ 65536) :
    CallsG Tryz.prog 336 [.agg (pixE a), .agg (pixE b), i64 n, i64 d] [] (.agg (pixE (lerpC a b n d))) [] := by
  refine calls_to tok mix Tryz.func336 rfl rfl rfl ?_
  refine Br.mk (fun h => by omega) (fun _ => ?_)
  refine Br.mk (fun h => by omega) (fun _ => ?_)
  refine CallV.to _ (c_clamp n 0 d) rfl ?_
  rw [(clamp_eq (by omega)).2 hn]
  refine CallV.to _ (c_both a b n d ha hb hn hd) rfl ?_
  exact .refl

theorem c_lerpc' (a b : Pix) (n d : Int) (ha : P8 a) (hb : P8 b) (hn : 0 ≤ n ∧ n ≤ d) (hd : 1 ≤ d ∧ d ≤ 65536) :
    CallsG Tryz.prog 261 [.agg (pixE a), .agg (pixE b), i64 n, i64 d] [] (.agg (pixE (lerpC a b n d))) [] := by
  refine calls_to tok mix Tryz.func261 rfl rfl rfl ?_
  refine Br.mk (fun h => by omega) (fun _ => ?_)
  refine Br.mk (fun h => by omega) (fun _ => ?_)
  change Dr _ _ _
  rw [show maxL 0 [minL n [d]] = n by show max 0 (min n d) = n; omega]
  refine Dr.mk (by decide +kernel) ?_
  refine CallV.to _ (c_lerp1' _ _ n d ha.1 hb.1 hn hd) rfl ?_
  refine CallV.to _ (c_lerp1' _ _ n d ha.2.1 hb.2.1 hn hd) rfl ?_
  refine CallV.to _ (c_lerp1' _ _ n d ha.2.2.1 hb.2.2.1 hn hd) rfl ?_
  refine CallV.to _ (c_lerp1' _ _ n d ha.2.2.2 hb.2.2.2 hn hd) rfl ?_
  exact .refl

end Go.Gs
/- Blending, plain: terms, fractions, what they yield. -/
namespace Go.Gs

theorem mulb {a b A B : Int} (h0 : 0 ≤ a) (h1 : a ≤ A) (k0 : 0 ≤ b) (k1 : b ≤ B) : 0 ≤ a * b ∧ a * b ≤ A * B :=
  ⟨Int.mul_nonneg h0 k0, Int.mul_le_mul h1 k1 k0 (by omega)⟩

theorem rdivp {a b : Int} (ha : 0 ≤ a) (hb : 0 < b) : rdiv a b = (2 * a + b) / (2 * b) := by
  obtain ⟨a, rfl⟩ := Int.eq_ofNat_of_zero_le ha
  obtain ⟨b, rfl⟩ := Int.eq_ofNat_of_zero_le (Int.le_of_lt hb)
  unfold rdiv
  rw [if_pos (by omega)]
  simp
/-- A number divided by 255, rounded, held in a byte. -/
def dn8 (n : Int) : Int := max 0 (min 255 (rdiv n 255))
theorem dn8_pos {n : Int} (h : 0 ≤ n) : dn8 n = min 255 ((2 * n + 255) / 510) := by
  unfold dn8
  rw [rdivp h (by decide)]
  omega
theorem dn8_8 (n : Int) : R8 (dn8 n) := by unfold dn8 R8; omega
theorem dn8_mono {m n : Int} (h : 0 ≤ m) (k : m ≤ n) : dn8 m ≤ dn8 n := by
  rw [dn8_pos h, dn8_pos (by omega)]; omega

def clampP (p : Pix) : Pix := ⟨min p.r p.a, min p.g p.a, min p.b p.a, p.a⟩
def scaleP (p : Pix) (k : Int) : Pix := ⟨mul8 p.r k, mul8 p.g k, mul8 p.b k, mul8 p.a k⟩
theorem clampP_ok (p : Pix) : pxOK (clampP p) := ⟨Int.min_le_right _ _, Int.min_le_right _ _, Int.min_le_right _ _⟩
theorem clampP_8 {p : Pix} (h : P8 p) : P8 (clampP p) := by
  obtain ⟨⟨a, b⟩, ⟨c, d⟩, ⟨e, f⟩, ⟨g, i⟩⟩ := h
  refine ⟨⟨?_, ?_⟩, ⟨?_, ?_⟩, ⟨?_, ?_⟩, ⟨g, i⟩⟩ <;> (unfold clampP; dsimp only; omega)
theorem clampP_self {p : Pix} (h : pxOK p) : clampP p = p := by
  obtain ⟨h1, h2, h3⟩ := h
  unfold clampP
  rw [Int.min_eq_left h1, Int.min_eq_left h2, Int.min_eq_left h3]
theorem scaleP_8 {p : Pix} {k : Int} (h : P8 p) (hk : R8 k) : P8 (scaleP p k) := by
  have h1 := mul8_range h.1 hk
  have h2 := mul8_range h.2.1 hk
  have h3 := mul8_range h.2.2.1 hk
  have h4 := mul8_range h.2.2.2 hk
  unfold R8 at *
  exact ⟨by show R8 (mul8 _ _); unfold R8; omega, by show R8 (mul8 _ _); unfold R8; omega, by show R8 (mul8 _ _); unfold R8; omega, by show R8 (mul8 _ _); unfold R8; omega⟩
theorem mul8_mono {a b k : Int} (h : a ≤ b) (hk : 0 ≤ k) : mul8 a k ≤ mul8 b k := by
  unfold mul8
  have : a * k ≤ b * k := Int.mul_le_mul_of_nonneg_right h hk
  have e1 : 2 * a * k = 2 * (a * k) := Int.mul_assoc ..
  have e2 : 2 * b * k = 2 * (b * k) := Int.mul_assoc ..
  rw [e1, e2]
  omega
theorem scaleP_ok {p : Pix} {k : Int} (h : pxOK p) (hk : 0 ≤ k) : pxOK (scaleP p k) := ⟨mul8_mono h.1 hk, mul8_mono h.2.1 hk, mul8_mono h.2.2 hk⟩

/-! ### Modes that blend each component by itself -/
def hardT (low : Prop) [Decidable low] (s sa d da : Int) : Int := if low then 2 * s * d else sa * da - 2 * (da - d) * (sa - s)
def term8 (mode s sa d da : Int) : Int :=
  if mode = 2 then s * d else if mode = 3 then s * da + d * sa - s * d else if mode = 4 then hardT (2 * d ≤ da) s sa d da
  else if mode = 5 then min (s * da) (d * sa) else if mode = 6 then max (s * da) (d * sa) else if mode = 7 then max (s * da) (d * sa) - min (s * da) (d * sa)
  else if mode = 8 then s * da + d * sa - 2 * s * d else if mode = 9 then hardT (2 * s ≤ sa) s sa d da else s * da
def one8 (mode s sa d da : Int) : Int := dn8 (s * (255 - da) + d * (255 - sa) + term8 mode s sa d da)
def alp8 (sa da : Int) : Int := dn8 (sa * (255 - da) + da * (255 - sa) + sa * da)

/-- What is known of two clamped components. -/
structure Two (s sa d da : Int) : Prop where
  s0 : 0 ≤ s
  s1 : s ≤ sa
  s2 : sa ≤ 255
  d0 : 0 ≤ d
  d1 : d ≤ da
  d2 : da ≤ 255

theorem hardT_range {low : Prop} [Decidable low] {s sa d da : Int} (h : Two s sa d da) (hl : low → 2 * s * d ≤ sa * da) (hh : ¬ low → 2 * (da - d) * (sa - s) ≤ sa * da) : 0 ≤ hardT low s sa d da ∧ hardT low s sa d da ≤ sa * da := by
  unfold hardT
  obtain ⟨h1, h2, h3, h4, h5, h6⟩ := h
  split
  · rename_i hlow
    have e : 2 * s * d = 2 * (s * d) := Int.mul_assoc ..
    have := Int.mul_nonneg h1 h4
    have := hl hlow
    omega
  · rename_i hlow
    have e : 2 * (da - d) * (sa - s) = 2 * ((da - d) * (sa - s)) := Int.mul_assoc ..
    have := Int.mul_nonneg (show 0 ≤ da - d by omega) (show 0 ≤ sa - s by omega)
    have := hh hlow
    omega

theorem term8_range (mode : Int) {s sa d da : Int} (h : Two s sa d da) : 0 ≤ term8 mode s sa d da ∧ term8 mode s sa d da ≤ sa * da := by
  obtain ⟨h1, h2, h3, h4, h5, h6⟩ := h
  have a1 := Int.mul_nonneg h1 (show 0 ≤ da by omega)
  have a2 : s * da ≤ sa * da := Int.mul_le_mul_of_nonneg_right h2 (by omega)
  have b1 := Int.mul_nonneg h4 (show 0 ≤ sa by omega)
  have b2 : d * sa ≤ da * sa := Int.mul_le_mul_of_nonneg_right h5 (by omega)
  have c1 := Int.mul_nonneg h1 h4
  have c2 : s * d ≤ s * da := Int.mul_le_mul_of_nonneg_left h5 h1
  have c3 : d * s ≤ d * sa := Int.mul_le_mul_of_nonneg_left h2 h4
  have e1 : da * sa = sa * da := Int.mul_comm ..
  have e2 : d * s = s * d := Int.mul_comm ..
  have e3 : (sa - s) * (da - d) = sa * da - s * da - d * sa + s * d := by
    rw [Int.sub_mul, Int.mul_sub, Int.mul_sub, Int.mul_comm sa d]; omega
  have f1 := Int.mul_nonneg (show 0 ≤ sa - s by omega) (show 0 ≤ da - d by omega)
  have e4 : 2 * s * d = 2 * (s * d) := Int.mul_assoc ..
  unfold term8
  split
  · omega
  split
  · omega
  split
  · refine hardT_range ⟨h1, h2, h3, h4, h5, h6⟩ (fun hl => ?_) (fun hl => ?_)
    · have : s * (2 * d) ≤ s * da := Int.mul_le_mul_of_nonneg_left hl h1
      have e : s * (2 * d) = 2 * (s * d) := Int.mul_left_comm ..
      omega
    · have h7 : (2 * (da - d)) * (sa - s) ≤ da * (sa - s) := Int.mul_le_mul_of_nonneg_right (by omega) (by omega)
      have h8 : da * (sa - s) ≤ da * sa := Int.mul_le_mul_of_nonneg_left (by omega) (by omega)
      omega
  split
  · omega
  split
  · omega
  split
  · omega
  split
  · rw [e4]; omega
  split
  · refine hardT_range ⟨h1, h2, h3, h4, h5, h6⟩ (fun hl => ?_) (fun hl => ?_)
    · have : (2 * s) * d ≤ sa * d := Int.mul_le_mul_of_nonneg_right hl h4
      have : sa * d ≤ sa * da := Int.mul_le_mul_of_nonneg_left h5 (by omega)
      omega
    · have h7 : (da - d) * (2 * (sa - s)) ≤ (da - d) * sa := Int.mul_le_mul_of_nonneg_left (by omega) (by omega)
      have h8 : (da - d) * sa ≤ da * sa := Int.mul_le_mul_of_nonneg_right (by omega) (by omega)
      have e : 2 * (da - d) * (sa - s) = (da - d) * (2 * (sa - s)) := by rw [Int.mul_comm 2, Int.mul_assoc]
      omega
  · omega

theorem one8_sum {mode s sa d da : Int} (h : Two s sa d da) : 0 ≤ s * (255 - da) ∧ s * (255 - da) ≤ 65025 ∧ 0 ≤ d * (255 - sa) ∧ d * (255 - sa) ≤ 65025 ∧ 0 ≤ s * (255 - da) + d * (255 - sa) + term8 mode s sa d da ∧
    s * (255 - da) + d * (255 - sa) + term8 mode s sa d da ≤ sa * (255 - da) + da * (255 - sa) + sa * da := by
  have ht := term8_range mode h
  obtain ⟨h1, h2, h3, h4, h5, h6⟩ := h
  have a1 := mulb h1 (show s ≤ 255 by omega) (show 0 ≤ 255 - da by omega) (show 255 - da ≤ 255 by omega)
  have b1 := mulb h4 (show d ≤ 255 by omega) (show 0 ≤ 255 - sa by omega) (show 255 - sa ≤ 255 by omega)
  have a2 : s * (255 - da) ≤ sa * (255 - da) := Int.mul_le_mul_of_nonneg_right h2 (by omega)
  have b2 : d * (255 - sa) ≤ da * (255 - sa) := Int.mul_le_mul_of_nonneg_right h5 (by omega)
  omega
theorem one8_le {mode s sa d da : Int} (h : Two s sa d da) : one8 mode s sa d da ≤ alp8 sa da :=
  dn8_mono (one8_sum h).2.2.2.2.1 (one8_sum h).2.2.2.2.2

/-! ### Modes that take the color as a whole -/
structure C3 where
  r : Int
  g : Int
  b : Int
def timesC (p : Pix) (n : Int) : C3 := ⟨p.r * n, p.g * n, p.b * n⟩
def C3.low (c : C3) : Int := min c.r (min c.g c.b)
def C3.high (c : C3) : Int := max c.r (max c.g c.b)
def C3.sat (c : C3) : Int := c.high - c.low
def C3.lum (c : C3) : Int := 30 * c.r + 59 * c.g + 11 * c.b
def recC (mode : Int) (s d : C3) : C3 := if mode = 11 then d else if mode = 13 then d else s
def recT (mode : Int) (s d : C3) : Int := if mode = 11 then s.sat else if mode = 12 then s.sat else d.sat
def recL (mode : Int) (s d : C3) : Int := if mode = 13 then s.lum else d.lum
def fracN (x : Int) (c : C3) (t l a : Int) : Int :=
  if c.sat = 0 then l else if l * c.sat < t * (c.lum - 100 * c.low) then l * (x - c.low)
  else if 100 * a * c.sat < 100 * c.sat * t + l * c.sat - t * (c.lum - 100 * c.low) then a * (100 * c.high - c.lum) - (100 * a - l) * (c.high - x)
  else 100 * (x - c.low) * t + l * c.sat - t * (c.lum - 100 * c.low)
def fracD (c : C3) (t l a : Int) : Int :=
  if c.sat = 0 then 100 else if l * c.sat < t * (c.lum - 100 * c.low) then c.lum - 100 * c.low
  else if 100 * a * c.sat < 100 * c.sat * t + l * c.sat - t * (c.lum - 100 * c.low) then 100 * c.high - c.lum else 100 * c.sat
def mix8 (base n d : Int) : Int := (2 * (base * d + n) + 255 * d) / (510 * d)
def baseC (x y sa da : Int) : Int := x * (255 - da) + y * (255 - sa)
def whole1 (mode : Int) (s d : Pix) (x y : Int) (f : C3 → Int) : Int :=
  mix8 (baseC x y s.a d.a) (fracN (f (recC mode (timesC s d.a) (timesC d s.a))) (recC mode (timesC s d.a) (timesC d s.a)) (recT mode (timesC s d.a) (timesC d s.a)) (recL mode (timesC s d.a) (timesC d s.a)) (s.a * d.a))
    (fracD (recC mode (timesC s d.a) (timesC d s.a)) (recT mode (timesC s d.a) (timesC d s.a)) (recL mode (timesC s d.a) (timesC d s.a)) (s.a * d.a))
def wholeP (mode : Int) (s d : Pix) : Pix := ⟨whole1 mode s d s.r d.r C3.r, whole1 mode s d s.g d.g C3.g, whole1 mode s d s.b d.b C3.b, alp8 s.a d.a⟩

structure C3.ok (c : C3) (a : Int) : Prop where
  r0 : 0 ≤ c.r
  r1 : c.r ≤ a
  g0 : 0 ≤ c.g
  g1 : c.g ≤ a
  b0 : 0 ≤ c.b
  b1 : c.b ≤ a
theorem C3.ok.sat {c : C3} {a : Int} (h : c.ok a) : 0 ≤ c.low ∧ c.low ≤ c.high ∧ c.high ≤ a ∧ 0 ≤ c.sat ∧ c.sat ≤ a ∧ 100 * c.low ≤ c.lum ∧ c.lum ≤ 100 * c.high ∧ 0 ≤ c.lum ∧ c.lum ≤ 100 * a := by
  obtain ⟨h1, h2, h3, h4, h5, h6⟩ := h
  unfold C3.sat C3.low C3.high C3.lum
  omega

theorem frac_ok {x : Int} {c : C3} {t l a : Int} (hc : c.ok a) (hx : c.low ≤ x ∧ x ≤ c.high) (ht : 0 ≤ t ∧ t ≤ a) (hl : 0 ≤ l ∧ l ≤ 100 * a) :
    0 < fracD c t l a ∧ fracD c t l a ≤ 100 * a + 100 ∧ 0 ≤ fracN x c t l a ∧ fracN x c t l a ≤ a * fracD c t l a := by
  obtain ⟨s1, s2, s3, s4, s5, s6, s7, s8, s9⟩ := hc.sat
  unfold fracD fracN
  have hsat : c.sat = c.high - c.low := rfl
  generalize c.low = lo at *
  generalize c.high = hi at *
  generalize c.sat = m at *
  generalize c.lum = u at *
  by_cases h0 : m = 0
  · rw [if_pos h0, if_pos h0]
    have : a * 100 = 100 * a := Int.mul_comm ..
    omega
  rw [if_neg h0, if_neg h0]
  have hm : 0 < m := by omega
  by_cases h1 : l * m < t * (u - 100 * lo)
  · rw [if_pos h1, if_pos h1]
    have a1 := Int.mul_nonneg hl.1 (show 0 ≤ m by omega)
    have hk : 0 < u - 100 * lo := by
      rcases Int.lt_or_le 0 (u - 100 * lo) with h | h
      · exact h
      · exfalso
        have : t * (u - 100 * lo) ≤ 0 := Int.mul_nonpos_of_nonneg_of_nonpos ht.1 h
        omega
    have a2 := Int.mul_nonneg hl.1 (show 0 ≤ x - lo by omega)
    have a3 : l * (x - lo) ≤ l * m := Int.mul_le_mul_of_nonneg_left (by omega) hl.1
    have a4 : t * (u - 100 * lo) ≤ a * (u - 100 * lo) := Int.mul_le_mul_of_nonneg_right ht.2 (by omega)
    omega
  rw [if_neg h1, if_neg h1]
  have h1 : 0 ≤ l * m - t * (u - 100 * lo) := by omega
  by_cases h2 : 100 * a * m < 100 * m * t + l * m - t * (u - 100 * lo)
  · rw [if_pos h2, if_pos h2]
    -- t * bright > m * (100 a - l)
    have e1 : t * (100 * hi - u) = 100 * m * t - t * (u - 100 * lo) := by
      have : 100 * hi - u = 100 * m - (u - 100 * lo) := by omega
      rw [this, Int.mul_sub, Int.mul_comm t]
    have e2 : (100 * a - l) * m = 100 * a * m - l * m := Int.sub_mul ..
    have h3 : (100 * a - l) * m < t * (100 * hi - u) := by omega
    have a1 := Int.mul_nonneg (show 0 ≤ 100 * a - l by omega) (show 0 ≤ m by omega)
    have hb : 0 < 100 * hi - u := by
      rcases Int.lt_or_le 0 (100 * hi - u) with h | h
      · exact h
      · exfalso
        have : t * (100 * hi - u) ≤ 0 := Int.mul_nonpos_of_nonneg_of_nonpos ht.1 h
        omega
    have a2 := Int.mul_nonneg (show 0 ≤ 100 * a - l by omega) (show 0 ≤ hi - x by omega)
    have a3 : (100 * a - l) * (hi - x) ≤ (100 * a - l) * m := Int.mul_le_mul_of_nonneg_left (by omega) (by omega)
    have a4 : t * (100 * hi - u) ≤ a * (100 * hi - u) := Int.mul_le_mul_of_nonneg_right ht.2 (by omega)
    omega
  · rw [if_neg h2, if_neg h2]
    have a1 : 0 ≤ 100 * (x - lo) * t := Int.mul_nonneg (by omega) ht.1
    have a2 : 100 * (x - lo) * t ≤ 100 * m * t := Int.mul_le_mul_of_nonneg_right (by omega) ht.1
    have e : a * (100 * m) = 100 * a * m := by rw [Int.mul_left_comm, Int.mul_assoc]
    omega

theorem timesC_ok {p : Pix} {n : Int} (h : pxOK p) (h8 : P8 p) (hn : 0 ≤ n) : (timesC p n).ok (p.a * n) :=
  ⟨Int.mul_nonneg h8.1.1 hn, Int.mul_le_mul_of_nonneg_right h.1 hn, Int.mul_nonneg h8.2.1.1 hn, Int.mul_le_mul_of_nonneg_right h.2.1 hn, Int.mul_nonneg h8.2.2.1.1 hn, Int.mul_le_mul_of_nonneg_right h.2.2 hn⟩
/-- The recipe of two clamped pixels. -/
theorem rec_ok (mode : Int) {s d : Pix} (hs : pxOK s) (h8 : P8 s) (hd : pxOK d) (k8 : P8 d) :
    (recC mode (timesC s d.a) (timesC d s.a)).ok (s.a * d.a) ∧ (0 ≤ recT mode (timesC s d.a) (timesC d s.a) ∧ recT mode (timesC s d.a) (timesC d s.a) ≤ s.a * d.a) ∧
    (0 ≤ recL mode (timesC s d.a) (timesC d s.a) ∧ recL mode (timesC s d.a) (timesC d s.a) ≤ 100 * (s.a * d.a)) := by
  have o1 := timesC_ok hs h8 k8.2.2.2.1
  have o2 := timesC_ok hd k8 h8.2.2.2.1
  rw [Int.mul_comm d.a s.a] at o2
  obtain ⟨_, _, _, a4, a5, _, _, a8, a9⟩ := o1.sat
  obtain ⟨_, _, _, b4, b5, _, _, b8, b9⟩ := o2.sat
  refine ⟨?_, ?_, ?_⟩
  · unfold recC; split
    · exact o2
    split
    · exact o2
    · exact o1
  · unfold recT; split
    · exact ⟨a4, a5⟩
    split
    · exact ⟨a4, a5⟩
    · exact ⟨b4, b5⟩
  · unfold recL; split
    · exact ⟨a8, a9⟩
    · exact ⟨b8, b9⟩

theorem mix8_le {base B n d a : Int} (hd : 0 < d) (hn : 0 ≤ n) (hna : n ≤ a * d) (hb : 0 ≤ base) (hB : base ≤ B) : 0 ≤ mix8 base n d ∧ mix8 base n d ≤ (2 * (B + a) + 255) / 510 := by
  have e0 := Int.mul_nonneg hb (Int.le_of_lt hd)
  have e1 : base * d ≤ B * d := Int.mul_le_mul_of_nonneg_right hB (Int.le_of_lt hd)
  unfold mix8
  refine ⟨Int.ediv_nonneg (by omega) (by omega), ?_⟩
  have e2 : (2 * (B + a) + 255) * d = 2 * (B * d + a * d) + 255 * d := by rw [Int.add_mul, Int.mul_assoc, Int.add_mul]
  have e3 : (2 * (B + a) + 255) / 510 = ((2 * (B + a) + 255) * d) / (510 * d) := (Int.mul_ediv_mul_of_pos_left _ _ hd).symm
  rw [e3, e2]
  exact Int.ediv_le_ediv (by omega) (by omega)

theorem C3.at_r (c : C3) : c.low ≤ c.r ∧ c.r ≤ c.high := by unfold C3.low C3.high; omega
theorem C3.at_g (c : C3) : c.low ≤ c.g ∧ c.g ≤ c.high := by unfold C3.low C3.high; omega
theorem C3.at_b (c : C3) : c.low ≤ c.b ∧ c.b ≤ c.high := by unfold C3.low C3.high; omega

theorem whole1_le {mode : Int} {s d : Pix} (hs : pxOK s) (h8 : P8 s) (hd : pxOK d) (k8 : P8 d) {x y : Int} {f : C3 → Int} (hx : 0 ≤ x ∧ x ≤ s.a) (hy : 0 ≤ y ∧ y ≤ d.a) (hf : ∀ c : C3, c.low ≤ f c ∧ f c ≤ c.high) :
    0 ≤ whole1 mode s d x y f ∧ whole1 mode s d x y f ≤ alp8 s.a d.a := by
  obtain ⟨o1, o2, o3⟩ := rec_ok mode hs h8 hd k8
  obtain ⟨f1, f2, f3, f4⟩ := frac_ok o1 (hf _) o2 o3
  have r1 := h8.2.2.2
  have r2 := k8.2.2.2
  unfold R8 at r1 r2
  have a1 : x * (255 - d.a) ≤ s.a * (255 - d.a) := Int.mul_le_mul_of_nonneg_right hx.2 (by omega)
  have a2 : y * (255 - s.a) ≤ d.a * (255 - s.a) := Int.mul_le_mul_of_nonneg_right hy.2 (by omega)
  have a3 := Int.mul_nonneg hx.1 (show 0 ≤ 255 - d.a by omega)
  have a4 := Int.mul_nonneg hy.1 (show 0 ≤ 255 - s.a by omega)
  have a5 := Int.mul_nonneg r1.1 r2.1
  have a6 := mulb r1.1 r1.2 (show 0 ≤ 255 - d.a by omega) (show 255 - d.a ≤ 255 by omega)
  have hm := mix8_le (B := s.a * (255 - d.a) + d.a * (255 - s.a)) f1 f3 f4 (show 0 ≤ baseC x y s.a d.a by unfold baseC; omega) (by unfold baseC; omega)
  refine ⟨hm.1, ?_⟩
  unfold alp8
  rw [dn8_pos (by omega)]
  have : whole1 mode s d x y f ≤ (2 * (s.a * (255 - d.a) + d.a * (255 - s.a) + s.a * d.a) + 255) / 510 := hm.2
  -- the sum is at most 255 * 255
  have b1 : s.a * (255 - d.a) + d.a * (255 - s.a) + s.a * d.a ≤ 65025 := by
    have e1 : s.a * (255 - d.a) = 255 * s.a - s.a * d.a := by rw [Int.mul_sub, Int.mul_comm]
    have e2 : d.a * (255 - s.a) = 255 * d.a - s.a * d.a := by rw [Int.mul_sub, Int.mul_comm, Int.mul_comm d.a s.a]
    have e3 : (255 - s.a) * (255 - d.a) = 65025 - 255 * s.a - 255 * d.a + s.a * d.a := by
      rw [Int.sub_mul, Int.mul_sub, Int.mul_sub]; omega
    have e4 := Int.mul_nonneg (show 0 ≤ 255 - s.a by omega) (show 0 ≤ 255 - d.a by omega)
    omega
  omega

/-! ### Blending -/
def modeOK (mode : Int) : Prop := 1 ≤ mode ∧ mode ≤ 13
instance instB01 (m : Int) : Decidable (modeOK m) := inferInstanceAs (Decidable (_ ∧ _))
def sepP (mode : Int) (s d : Pix) : Pix := ⟨one8 mode s.r s.a d.r d.a, one8 mode s.g s.a d.g d.a, one8 mode s.b s.a d.b d.a, alp8 s.a d.a⟩
def blendP (mode : Int) (s d : Pix) : Pix :=
  if ¬ modeOK mode then d else if 9 < mode then wholeP mode (clampP s) (clampP d) else sepP mode (clampP s) (clampP d)
def coverP (mode : Int) (s d : Pix) (k : Int) : Pix := blendP mode (scaleP s k) d

theorem two_r {s d : Pix} (hs : pxOK s) (h8 : P8 s) (hd : pxOK d) (k8 : P8 d) : Two s.r s.a d.r d.a := ⟨h8.1.1, hs.1, h8.2.2.2.2, k8.1.1, hd.1, k8.2.2.2.2⟩
theorem two_g {s d : Pix} (hs : pxOK s) (h8 : P8 s) (hd : pxOK d) (k8 : P8 d) : Two s.g s.a d.g d.a := ⟨h8.2.1.1, hs.2.1, h8.2.2.2.2, k8.2.1.1, hd.2.1, k8.2.2.2.2⟩
theorem two_b {s d : Pix} (hs : pxOK s) (h8 : P8 s) (hd : pxOK d) (k8 : P8 d) : Two s.b s.a d.b d.a := ⟨h8.2.2.1.1, hs.2.2, h8.2.2.2.2, k8.2.2.1.1, hd.2.2, k8.2.2.2.2⟩
theorem blendP_ok {mode : Int} {s d : Pix} (hm : modeOK mode) (h8 : P8 s) (k8 : P8 d) : pxOK (blendP mode s d) ∧ P8 (blendP mode s d) := by
  have hs := clampP_ok s
  have hd := clampP_ok d
  have h8 := clampP_8 h8
  have k8 := clampP_8 k8
  unfold blendP
  rw [if_neg (fun h => h hm)]
  have al := dn8_8 ((clampP s).a * (255 - (clampP d).a) + (clampP d).a * (255 - (clampP s).a) + (clampP s).a * (clampP d).a)
  split
  · have w1 := whole1_le (mode := mode) hs h8 hd k8 (x := (clampP s).r) (y := (clampP d).r) ⟨h8.1.1, hs.1⟩ ⟨k8.1.1, hd.1⟩ C3.at_r
    have w2 := whole1_le (mode := mode) hs h8 hd k8 (x := (clampP s).g) (y := (clampP d).g) ⟨h8.2.1.1, hs.2.1⟩ ⟨k8.2.1.1, hd.2.1⟩ C3.at_g
    have w3 := whole1_le (mode := mode) hs h8 hd k8 (x := (clampP s).b) (y := (clampP d).b) ⟨h8.2.2.1.1, hs.2.2⟩ ⟨k8.2.2.1.1, hd.2.2⟩ C3.at_b
    exact ⟨⟨w1.2, w2.2, w3.2⟩, ⟨w1.1, Int.le_trans w1.2 al.2⟩, ⟨w2.1, Int.le_trans w2.2 al.2⟩, ⟨w3.1, Int.le_trans w3.2 al.2⟩, al⟩
  · exact ⟨⟨one8_le (two_r hs h8 hd k8), one8_le (two_g hs h8 hd k8), one8_le (two_b hs h8 hd k8)⟩, dn8_8 _, dn8_8 _, dn8_8 _, al⟩
theorem coverP_ok {mode : Int} {s d : Pix} {k : Int} (hm : modeOK mode) (h8 : P8 s) (k8 : P8 d) (hk : R8 k) : pxOK (coverP mode s d k) ∧ P8 (coverP mode s d k) := blendP_ok hm (scaleP_8 h8 hk) k8

end Go.Gs
/- Rectangles of pixels and rows of their pixels, plain. -/
namespace Go.Gs

theorem zero_8 : P8 zeroP := ⟨⟨by decide, by decide⟩, ⟨by decide, by decide⟩, ⟨by decide, by decide⟩, ⟨by decide, by decide⟩⟩
structure Rc where
  x0 : Int
  y0 : Int
  x1 : Int
  y1 : Int
def rcE (r : Rc) : List SV := [i64 r.x0, i64 r.y0, i64 r.x1, i64 r.y1]
def zeroR : Rc := ⟨0, 0, 0, 0⟩
theorem rc_eq {p q : Rc} : (p.x0 = q.x0 ∧ p.y0 = q.y0 ∧ p.x1 = q.x1 ∧ p.y1 = q.y1 ∧ True) ↔ p = q := by
  rcases p with ⟨a, b, c, d⟩; rcases q with ⟨a', b', c', d'⟩; simp
instance instG01 : DecidableEq Rc := fun _ _ => decidable_of_iff _ rc_eq

def inRc (n : Int) : Prop := -4096 ≤ n ∧ n ≤ 4096
instance instG02 (n : Int) : Decidable (inRc n) := inferInstanceAs (Decidable (_ ∧ _))
def Rc.ok (r : Rc) : Prop := inRc r.x0 ∧ inRc r.y0 ∧ inRc r.x1 ∧ inRc r.y1
instance instG03 (r : Rc) : Decidable r.ok := inferInstanceAs (Decidable (_ ∧ _))
def Rc.mt (r : Rc) : Prop := ¬ r.ok ∨ r.x1 ≤ r.x0 ∨ r.y1 ≤ r.y0
instance instG04 (r : Rc) : Decidable r.mt := inferInstanceAs (Decidable (_ ∨ _))
def Rc.canon (r : Rc) : Rc := if r.mt then zeroR else r
def Rc.w (r : Rc) : Int := r.x1 - r.x0
def Rc.h (r : Rc) : Int := r.y1 - r.y0
def Rc.area (r : Rc) : Int := r.canon.w * r.canon.h
def Rc.has (r : Rc) (x y : Int) : Prop := ¬ r.mt ∧ r.x0 ≤ x ∧ x < r.x1 ∧ r.y0 ≤ y ∧ y < r.y1
instance instG05 (r : Rc) (x y : Int) : Decidable (r.has x y) := inferInstanceAs (Decidable (_ ∧ _))
def Rc.idx (r : Rc) (x y : Int) : Int := if r.has x y then (y - r.y0) * r.w + x - r.x0 else -1
def Rc.meet (a b : Rc) : Rc := if a.mt ∨ b.mt then zeroR else Rc.canon ⟨max a.x0 b.x0, max a.y0 b.y0, min a.x1 b.x1, min a.y1 b.y1⟩

theorem zeroR_mt : zeroR.mt := by decide
theorem Rc.canon_canon (r : Rc) : r.canon.canon = r.canon := by
  unfold Rc.canon
  by_cases h : r.mt
  · rw [if_pos h]; decide
  · rw [if_neg h, if_neg h]
/-- A rectangle that is its own canon. -/
theorem Rc.canon_self {r : Rc} (h : r.canon = r) : (r = zeroR) ∨ (¬ r.mt) := by
  unfold Rc.canon at h
  by_cases k : r.mt
  · rw [if_pos k] at h; exact .inl h.symm
  · exact .inr k
theorem Rc.notmt {r : Rc} (h : ¬ r.mt) : r.ok ∧ r.x0 < r.x1 ∧ r.y0 < r.y1 := by
  unfold Rc.mt at h
  refine ⟨Decidable.not_not.1 fun k => h (.inl k), ?_, ?_⟩
  · rcases Int.lt_or_le r.x0 r.x1 with k | k
    · exact k
    · exact absurd (.inr (.inl k)) h
  · rcases Int.lt_or_le r.y0 r.y1 with k | k
    · exact k
    · exact absurd (.inr (.inr k)) h
/-- The sides of a rectangle that is its own canon. -/
theorem Rc.sides {r : Rc} (h : r.canon = r) : inRc r.x0 ∧ inRc r.y0 ∧ inRc r.x1 ∧ inRc r.y1 ∧ 0 ≤ r.w ∧ r.w ≤ 8192 ∧ 0 ≤ r.h ∧ r.h ≤ 8192 ∧ (r.w = 0 ↔ r.h = 0) := by
  unfold Rc.w Rc.h
  rcases Rc.canon_self h with rfl | k
  · decide
  · obtain ⟨⟨⟨a, b⟩, ⟨c, d⟩, ⟨e, f⟩, g, i⟩, j, k⟩ := Rc.notmt k
    unfold inRc
    omega
theorem Rc.canon_ok (r : Rc) : r.canon.canon = r.canon := r.canon_canon
theorem Rc.area_canon {r : Rc} (h : r.canon = r) : r.area = r.w * r.h := by unfold Rc.area; rw [h]
theorem Rc.area_range (r : Rc) : 0 ≤ r.area ∧ r.area ≤ 67108864 := by
  obtain ⟨_, _, _, _, h1, h2, h3, h4, _⟩ := Rc.sides r.canon_canon
  unfold Rc.area
  have := mulb h1 h2 h3 h4
  omega

/-- The pixels of a rectangle in their order, row by row: the first 'n'. -/
def gridN {α : Type} (r : Rc) (g : Int → Int → α) (n : Nat) : List α := (List.range n).map fun (i : Nat) => g (r.x0 + (i : Int) % r.w) (r.y0 + (i : Int) / r.w)
def grid {α : Type} (r : Rc) (g : Int → Int → α) : List α := gridN r g r.area.toNat
theorem gridN_len {α : Type} (r : Rc) (g : Int → Int → α) (n : Nat) : (gridN r g n).length = n := by simp [gridN]
theorem grid_len {α : Type} (r : Rc) (g : Int → Int → α) : (grid r g).length = r.area.toNat := gridN_len _ _ _
theorem gridN_zero {α : Type} (r : Rc) (g : Int → Int → α) : gridN r g 0 = [] := rfl
theorem gridN_succ {α : Type} (r : Rc) (g : Int → Int → α) (n : Nat) : gridN r g (n + 1) = gridN r g n ++ [g (r.x0 + (n : Int) % r.w) (r.y0 + (n : Int) / r.w)] := by
  simp [gridN, List.range_succ]
theorem gridN_at {α : Type} {r : Rc} {g : Int → Int → α} {n i : Nat} (h : i < n) : (gridN r g n)[i]? = some (g (r.x0 + (i : Int) % r.w) (r.y0 + (i : Int) / r.w)) := by
  simp [gridN, h]
/-- The place of column 'c' in row 'k'. -/
theorem rowcol {w k c : Int} (hc : 0 ≤ c) (hw : c < w) : (k * w + c) % w = c ∧ (k * w + c) / w = k := by
  have h1 : (k * w + c) % w = c := by
    rw [Int.add_comm, Int.add_mul_emod_self_right]
    exact Int.emod_eq_of_lt hc hw
  have h2 : (k * w + c) / w = k := by
    rw [Int.add_comm, Int.add_mul_ediv_right _ _ (by omega), Int.ediv_eq_zero_of_lt hc hw, Int.zero_add]
  exact ⟨h1, h2⟩
theorem idx_lt {w h k c : Int} (hc : 0 ≤ c) (hw : c < w) (hk : 0 ≤ k) (hh : k < h) : 0 ≤ k * w + c ∧ k * w + c < w * h := by
  have h1 := Int.mul_nonneg hk (show 0 ≤ w by omega)
  have h2 : (k + 1) * w ≤ h * w := Int.mul_le_mul_of_nonneg_right (by omega) (by omega)
  have h3 : (k + 1) * w = k * w + w := by rw [Int.add_mul, Int.one_mul]
  have h4 : h * w = w * h := Int.mul_comm ..
  omega
/-- The place of a pixel of a rectangle. -/
theorem Rc.idx_has {r : Rc} {x y : Int} (h : r.has x y) : r.idx x y = (y - r.y0) * r.w + (x - r.x0) ∧ 0 ≤ r.idx x y ∧ r.idx x y < r.area ∧ r.idx x y % r.w = x - r.x0 ∧ r.idx x y / r.w = y - r.y0 := by
  obtain ⟨h0, h1, h2, h3, h4⟩ := h
  have e : r.idx x y = (y - r.y0) * r.w + (x - r.x0) := by unfold Rc.idx; rw [if_pos ⟨h0, h1, h2, h3, h4⟩]; omega
  have hw : x - r.x0 < r.w := by unfold Rc.w; omega
  have hh : y - r.y0 < r.h := by unfold Rc.h; omega
  have h5 := rowcol (k := y - r.y0) (show 0 ≤ x - r.x0 by omega) hw
  have h6 := idx_lt (show 0 ≤ x - r.x0 by omega) hw (show 0 ≤ y - r.y0 by omega) hh
  have ha : r.area = r.w * r.h := Rc.area_canon (by unfold Rc.canon; rw [if_neg h0])
  rw [e, ha]
  exact ⟨rfl, h6.1, h6.2, h5.1, h5.2⟩
theorem grid_at {α : Type} {r : Rc} {g : Int → Int → α} {x y : Int} (h : r.has x y) : (grid r g)[(r.idx x y).toNat]? = some (g x y) := by
  obtain ⟨_, h1, h2, h3, h4⟩ := Rc.idx_has h
  unfold grid
  rw [gridN_at (by omega), show (((r.idx x y).toNat : Nat) : Int) = r.idx x y by omega, h3, h4]
  congr 2 <;> omega
/-- Each place is that of a pixel. -/
theorem Rc.place {r : Rc} {i : Int} (h0 : 0 ≤ i) (h1 : i < r.area) : r.canon.has (r.canon.x0 + i % r.canon.w) (r.canon.y0 + i / r.canon.w) ∧ r.canon.idx (r.canon.x0 + i % r.canon.w) (r.canon.y0 + i / r.canon.w) = i := by
  have hs := Rc.sides r.canon_canon
  have hself := Rc.canon_self r.canon_canon
  unfold Rc.area at h1
  generalize r.canon = c at *
  have hn : ¬ c.mt := by
    rcases hself with rfl | k
    · simp [zeroR, Rc.w, Rc.h] at h1; omega
    · exact k
  obtain ⟨_, _, _, _, h2, _, h3, _, _⟩ := hs
  have hw : 0 < c.w := by
    rcases Int.lt_or_le 0 c.w with k | k
    · exact k
    · have : c.w = 0 := by omega
      rw [this, Int.zero_mul] at h1; omega
  have m1 := Int.emod_nonneg i (show c.w ≠ 0 by omega)
  have m2 := Int.emod_lt_of_pos i hw
  have d1 := Int.ediv_nonneg h0 (show 0 ≤ c.w by omega)
  have d2 : i / c.w < c.h := Int.ediv_lt_of_lt_mul hw (by rw [Int.mul_comm]; exact h1)
  have hh : c.has (c.x0 + i % c.w) (c.y0 + i / c.w) := ⟨hn, by omega, by unfold Rc.w at m2; unfold Rc.w; omega, by omega, by unfold Rc.h at d2; omega⟩
  refine ⟨hh, ?_⟩
  rw [(Rc.idx_has hh).1]
  have := Int.mul_ediv_add_emod i c.w
  have e : (c.y0 + i / c.w - c.y0) * c.w = c.w * (i / c.w) := by rw [show c.y0 + i / c.w - c.y0 = i / c.w by omega, Int.mul_comm]
  rw [e]; omega
theorem grid_congr {α : Type} {r : Rc} {f g : Int → Int → α} (hr : r.canon = r) (h : ∀ x y, r.has x y → f x y = g x y) : grid r f = grid r g := by
  unfold grid gridN
  refine List.map_congr_left fun i hi => ?_
  have hi := List.mem_range.1 hi
  have ha := r.area_range
  have := (Rc.place (r := r) (i := i) (by omega) (by omega)).1
  rw [hr] at this
  exact h _ _ this
theorem grid_mem {α : Type} {r : Rc} {f : Int → Int → α} (hr : r.canon = r) {p : α} (h : p ∈ grid r f) : ∃ x y, r.has x y ∧ p = f x y := by
  unfold grid gridN at h
  obtain ⟨i, hi, rfl⟩ := List.mem_map.1 h
  have hi := List.mem_range.1 hi
  have ha := r.area_range
  have := (Rc.place (r := r) (i := i) (by omega) (by omega)).1
  rw [hr] at this
  exact ⟨_, _, this, rfl⟩

/-! ### Bitmaps and masks -/
structure Bm where
  b : Rc
  px : List Pix
def bmE (s : Bm) : List SV := i64 s.b.x0 :: i64 s.b.y0 :: i64 s.b.x1 :: i64 s.b.y1 :: [.sl pixE s.px]
def zeroB : Bm := ⟨zeroR, []⟩
structure Mk where
  b : Rc
  cv : List Int
def mkE (s : Mk) : List SV := i64 s.b.x0 :: i64 s.b.y0 :: i64 s.b.x1 :: i64 s.b.y1 :: [.sl u8E s.cv]
def Bm.ok (s : Bm) : Prop := s.b.canon = s.b ∧ s.b.area ≤ 65536 ∧ (s.px.length : Int) = s.b.area ∧ ∀ p ∈ s.px, pxOK p
def Mk.ok (m : Mk) : Prop := m.b.canon = m.b ∧ m.b.area ≤ 65536 ∧ (m.cv.length : Int) = m.b.area
instance instG06 (m : Mk) : Decidable m.ok := inferInstanceAs (Decidable (_ ∧ _))
instance instG07 (s : Bm) : Decidable s.ok := inferInstanceAs (Decidable (_ ∧ _))
/-- A pixel of a bitmap that may be; zero beside it. -/
def Bm.at_ (s : Bm) (x y : Int) : Pix := if s.b.has x y then (s.px[(s.b.idx x y).toNat]?).getD zeroP else zeroP
def Mk.at_ (m : Mk) (x y : Int) : Int := if m.b.has x y then (m.cv[(m.b.idx x y).toNat]?).getD 0 else 0
theorem Bm.get {s : Bm} (h : s.ok) {x y : Int} (hh : s.b.has x y) : s.px[(s.b.idx x y).toNat]? = some (s.at_ x y) := by
  obtain ⟨_, h1, h2, _, _⟩ := Rc.idx_has hh
  have hl : (s.b.idx x y).toNat < s.px.length := by have := h.2.2.1; omega
  unfold Bm.at_
  rw [if_pos hh, List.getElem?_eq_getElem hl]; rfl
theorem Mk.get {s : Mk} (h : s.ok) {x y : Int} (hh : s.b.has x y) : s.cv[(s.b.idx x y).toNat]? = some (s.at_ x y) := by
  obtain ⟨_, h1, h2, _, _⟩ := Rc.idx_has hh
  have hl : (s.b.idx x y).toNat < s.cv.length := by have := h.2.2; omega
  unfold Mk.at_
  rw [if_pos hh, List.getElem?_eq_getElem hl]; rfl
/-- A bitmap that may be is the grid of its pixels. -/
theorem Bm.grid {s : Bm} (h : s.ok) : s.px = Go.Gs.grid s.b s.at_ := by
  obtain ⟨h1, h2, h3, h4⟩ := h
  have ha := s.b.area_range
  refine List.ext_getElem? fun i => ?_
  by_cases hi : i < s.px.length
  · have hp := Rc.place (r := s.b) (i := i) (by omega) (by omega)
    rw [h1] at hp
    unfold Go.Gs.grid
    rw [gridN_at (by omega)]
    have := Bm.get ⟨h1, h2, h3, h4⟩ hp.1
    rw [hp.2] at this
    exact this
  · rw [List.getElem?_eq_none (by omega), List.getElem?_eq_none (by rw [grid_len]; omega)]
theorem Bm.at_ok {s : Bm} (h : s.ok) (x y : Int) : pxOK (s.at_ x y) := by
  by_cases hh : s.b.has x y
  · exact h.2.2.2 _ (List.mem_of_getElem? (Bm.get h hh))
  · unfold Bm.at_; rw [if_neg hh]; decide
def B8 (s : Bm) : Prop := ∀ p ∈ s.px, P8 p
theorem Bm.at_8 {s : Bm} (h : B8 s) (x y : Int) : P8 (s.at_ x y) := by
  unfold Bm.at_
  split
  · cases hq : s.px[(s.b.idx x y).toNat]? with
    | none => exact zero_8
    | some p => exact h p (List.mem_of_getElem? hq)
  · exact zero_8
def M8 (m : Mk) : Prop := (∀ c ∈ m.cv, R8 c) ∧ (R64 m.b.x0 ∧ R64 m.b.y0 ∧ R64 m.b.x1 ∧ R64 m.b.y1)
theorem Mk.at_8 {m : Mk} (h : ∀ c ∈ m.cv, R8 c) (x y : Int) : R8 (m.at_ x y) := by
  unfold Mk.at_
  split
  · cases hq : m.cv[(m.b.idx x y).toNat]? with
    | none => show R8 0; decide
    | some p => exact h p (List.mem_of_getElem? hq)
  · decide

end Go.Gs
/- Rectangles of pixels, both texts. -/
namespace Go.Gs
open Go.Proofs

theorem LE_rc {p q : Rc} (h : p = q) : LE (.agg (rcE p)) (.agg (rcE q)) := by subst h; exact .refl
theorem Rc.canon_pos {r : Rc} (h : r.mt) : r.canon = zeroR := if_pos h
theorem Rc.canon_neg {r : Rc} (h : ¬ r.mt) : r.canon = r := if_neg h
theorem Rc.canon_R (r : Rc) : inRc r.canon.x0 ∧ inRc r.canon.y0 ∧ inRc r.canon.x1 ∧ inRc r.canon.y1 ∧ 0 ≤ r.canon.x1 - r.canon.x0 ∧ r.canon.x1 - r.canon.x0 ≤ 8192 ∧ 0 ≤ r.canon.y1 - r.canon.y0 ∧ r.canon.y1 - r.canon.y0 ≤ 8192 := by
  obtain ⟨a, b, c, d, e, f, g, h, _⟩ := Rc.sides r.canon_canon
  exact ⟨a, b, c, d, e, f, g, h⟩
theorem Rc.meet_canon (a b : Rc) : Rc.canon ⟨max a.canon.x0 b.canon.x0, max a.canon.y0 b.canon.y0, min a.canon.x1 b.canon.x1, min a.canon.y1 b.canon.y1⟩ = a.meet b := by
  unfold Rc.meet
  have e0 : zeroR.x0 = 0 ∧ zeroR.y0 = 0 ∧ zeroR.x1 = 0 ∧ zeroR.y1 = 0 := ⟨rfl, rfl, rfl, rfl⟩
  by_cases ha : a.mt
  · rw [if_pos (.inl ha), Rc.canon_pos ha, Rc.canon_pos]
    right; left; dsimp only; rw [e0.1, e0.2.2.1]; omega
  by_cases hb : b.mt
  · rw [if_pos (.inr hb), Rc.canon_pos hb, Rc.canon_pos]
    right; left; dsimp only; rw [e0.1, e0.2.2.1]; omega
  rw [if_neg (fun h => h.elim ha hb), Rc.canon_neg ha, Rc.canon_neg hb]
theorem Rc.has_canon (r : Rc) (x y : Int) : r.has x y ↔ (r.canon.x0 ≤ x ∧ x < r.canon.x1 ∧ r.canon.y0 ≤ y ∧ y < r.canon.y1) := by
  unfold Rc.has
  by_cases h : r.mt
  · rw [Rc.canon_pos h]
    simp only [h, not_true_eq_false, false_and, false_iff]
    intro k
    have : zeroR.x0 = 0 ∧ zeroR.x1 = 0 := ⟨rfl, rfl⟩
    omega
  · rw [Rc.canon_neg h]; simp [h]


theorem p_may (n : Int) : CallsG Tryz.prog 102 [i64 n] [] (pr (inRc n)) [] := by
  refine calls_to tok mix Tryz.func102 rfl rfl rfl ?_
  refine Br.mk (fun h1 => ?_) (fun h1 => LE_false (fun h => h1 h.1))
  exact LE_pr ⟨fun h => ⟨h1, h⟩, fun h => h.2⟩
theorem p_valid (r : Rc) : CallsG Tryz.prog 70 [.agg (rcE r)] [] (pr r.ok) [] := by
  refine calls_to tok mix Tryz.func70 rfl rfl rfl ?_
  refine CallV.to _ (p_may r.x0) rfl ?_
  refine Br.mk (fun h1 => ?_) (fun h1 => LE_false (fun h => h1 h.1))
  refine CallV.to _ (p_may r.y0) rfl ?_
  refine Br.mk (fun h2 => ?_) (fun h2 => LE_false (fun h => h2 h.2.1))
  refine CallV.to _ (p_may r.x1) rfl ?_
  refine Br.mk (fun h3 => ?_) (fun h3 => LE_false (fun h => h3 h.2.2.1))
  refine CallV.to _ (p_may r.y1) rfl ?_
  exact LE_pr ⟨fun h => ⟨h1, h2, h3, h⟩, fun h => h.2.2.2⟩
theorem p_empty (r : Rc) : CallsG Tryz.prog 105 [.agg (rcE r)] [] (pr r.mt) [] := by
  refine calls_to tok mix Tryz.func105 rfl rfl rfl ?_
  refine CallV.to _ (p_valid r) rfl ?_
  refine Br.mk (fun h1 => LE_true (.inl h1)) (fun h1 => ?_)
  refine Br.mk (fun h2 => LE_true (.inr (.inl h2))) (fun h2 => ?_)
  exact LE_pr ⟨fun h => .inr (.inr h), fun h => by rcases h with h | h | h; exact absurd h h1; exact absurd h h2; exact h⟩
theorem p_canon (r : Rc) : CallsG Tryz.prog 76 [.agg (rcE r)] [] (.agg (rcE r.canon)) [] := by
  refine calls_to tok mix Tryz.func76 rfl rfl rfl ?_
  refine CallV.to _ (p_empty r) rfl ?_
  refine Br.mk (fun h1 => LE_rc (Rc.canon_pos h1).symm) (fun h1 => LE_rc (Rc.canon_neg h1).symm)
theorem p_area (r : Rc) : CallsG Tryz.prog 75 [.agg (rcE r)] [] (i64 r.area) [] := by
  obtain ⟨a, b, c, d, e, f, g, h⟩ := r.canon_R
  unfold inRc at a b c d
  have hm := mulb e f g h
  refine calls_to tok mix Tryz.func75 rfl rfl rfl ?_
  refine CallV.to _ (p_canon r) rfl ?_
  refine Ar.fit (by omega) ?_
  refine Ar.fit (by omega) ?_
  refine Ar.fit (by omega) ?_
  exact .refl

theorem r_may (n : Int) : CallsG Tryz.prog 96 [i64 n] [] (pr (inRc n)) [] := by
  refine calls_to tok mix Tryz.func96 rfl rfl rfl ?_
  refine Br.mk (fun h1 => ?_) (fun h1 => LE_false (fun h => h1 h.1))
  exact LE_pr ⟨fun h => ⟨h1, h⟩, fun h => h.2⟩
theorem r_valid (r : Rc) : CallsG Tryz.prog 53 [.agg (rcE r)] [] (pr r.ok) [] := by
  refine calls_to tok mix Tryz.func53 rfl rfl rfl ?_
  refine CallV.to _ (r_may r.x0) rfl ?_
  refine Br.mk (fun h1 => ?_) (fun h1 => LE_false (fun h => h1 h.1))
  refine CallV.to _ (r_may r.y0) rfl ?_
  refine Br.mk (fun h2 => ?_) (fun h2 => LE_false (fun h => h2 h.2.1))
  refine CallV.to _ (r_may r.x1) rfl ?_
  refine Br.mk (fun h3 => ?_) (fun h3 => LE_false (fun h => h3 h.2.2.1))
  refine CallV.to _ (r_may r.y1) rfl ?_
  exact LE_pr ⟨fun h => ⟨h1, h2, h3, h⟩, fun h => h.2.2.2⟩
theorem r_empty (r : Rc) : CallsG Tryz.prog 93 [.agg (rcE r)] [] (pr r.mt) [] := by
  refine calls_to tok mix Tryz.func93 rfl rfl rfl ?_
  refine CallV.to _ (r_valid r) rfl ?_
  refine Br.mk (fun h1 => LE_true (.inl h1)) (fun h1 => ?_)
  refine Br.mk (fun h2 => LE_true (.inr (.inl h2))) (fun h2 => ?_)
  exact LE_pr ⟨fun h => .inr (.inr h), fun h => by rcases h with h | h | h; exact absurd h h1; exact absurd h h2; exact h⟩
theorem r_canon (r : Rc) : CallsG Tryz.prog 51 [.agg (rcE r)] [] (.agg (rcE r.canon)) [] := by
  refine calls_to tok mix Tryz.func51 rfl rfl rfl ?_
  refine CallV.to _ (r_empty r) rfl ?_
  refine Br.mk (fun h1 => LE_rc (Rc.canon_pos h1).symm) (fun h1 => LE_rc (Rc.canon_neg h1).symm)
theorem r_area (r : Rc) : CallsG Tryz.prog 20 [.agg (rcE r)] [] (i64 r.area) [] := by
  obtain ⟨a, b, c, d, e, f, g, h⟩ := r.canon_R
  unfold inRc at a b c d
  have hm := mulb e f g h
  refine calls_to tok mix Tryz.func20 rfl rfl rfl ?_
  refine CallV.to _ (r_canon r) rfl ?_
  refine Ar.fit (by omega) ?_
  refine Ar.fit (by omega) ?_
  refine Ar.fit (by omega) ?_
  exact .refl

theorem p_has (r : Rc) (x y : Int) : CallsG Tryz.prog 157 [.agg (rcE r), i64 x, i64 y] [] (pr (r.has x y)) [] := by
  refine calls_to tok mix Tryz.func157 rfl rfl rfl ?_
  refine CallV.to _ (p_empty r) rfl ?_
  refine Br.mk (fun h0 => ?_) (fun h0 => LE_false (fun h => h0 h.1))
  refine Br.mk (fun h1 => ?_) (fun h1 => LE_false (fun h => h1 h.2.1))
  refine Br.mk (fun h2 => ?_) (fun h2 => LE_false (fun h => h2 h.2.2.1))
  refine Br.mk (fun h3 => ?_) (fun h3 => LE_false (fun h => h3 h.2.2.2.1))
  exact LE_pr ⟨fun h => ⟨h0, h1, h2, h3, h⟩, fun h => h.2.2.2.2⟩
theorem r_has (r : Rc) (x y : Int) : CallsG Tryz.prog 63 [.agg (rcE r), i64 x, i64 y] [] (pr (r.has x y)) [] := by
  have e := Rc.has_canon r x y
  refine calls_to tok mix Tryz.func63 rfl rfl rfl ?_
  refine CallV.to _ (r_canon r) rfl ?_
  refine Br.mk (fun h1 => ?_) (fun h1 => LE_false (fun h => h1 (e.1 h).1))
  refine Br.mk (fun h2 => ?_) (fun h2 => LE_false (fun h => h2 (e.1 h).2.1))
  refine Br.mk (fun h3 => ?_) (fun h3 => LE_false (fun h => h3 (e.1 h).2.2.1))
  exact LE_pr ⟨fun h => e.2 ⟨h1, h2, h3, h⟩, fun h => (e.1 h).2.2.2⟩
set_option maxRecDepth 100000 in
theorem p_meet (a b : Rc) : CallsG Tryz.prog 71 [.agg (rcE a), .agg (rcE b)] [] (.agg (rcE (a.meet b))) [] := by
  refine calls_to tok mix Tryz.func71 rfl rfl rfl ?_
  refine Dr.dyn (Ob.mk (by decide +kernel) ?_)
  refine CallV.to _ (p_canon a) rfl ?_
  refine CallV.to _ (p_canon b) rfl ?_
  refine Ob.mk (by kernel_rfl) ?_
  refine CallV.to _ (p_canon ⟨max a.canon.x0 b.canon.x0, max a.canon.y0 b.canon.y0, min a.canon.x1 b.canon.x1, min a.canon.y1 b.canon.y1⟩) rfl ?_
  exact LE_rc (Rc.meet_canon a b)
set_option maxRecDepth 100000 in
theorem r_meet (a b : Rc) : CallsG Tryz.prog 61 [.agg (rcE a), .agg (rcE b)] [] (.agg (rcE (a.meet b))) [] := by
  refine calls_to tok mix Tryz.func61 rfl rfl rfl ?_
  refine CallV.to _ (r_empty a) rfl ?_
  refine Br.mk (fun h1 => LE_rc (p := zeroR) (by unfold Rc.meet; rw [if_pos (.inl h1)])) (fun h1 => ?_)
  refine CallV.to _ (r_empty b) rfl ?_
  refine Br.mk (fun h2 => LE_rc (p := zeroR) (by unfold Rc.meet; rw [if_pos (.inr h2)])) (fun h2 => ?_)
  refine CallV.to _ (r_canon ⟨max a.x0 b.x0, max a.y0 b.y0, min a.x1 b.x1, min a.y1 b.y1⟩) rfl ?_
  exact LE_rc (by unfold Rc.meet; rw [if_neg (fun h => h.elim h1 h2)])
set_option maxRecDepth 100000 in
theorem p_idx (r : Rc) (x y : Int) : CallsG Tryz.prog 99 [.agg (rcE r), i64 x, i64 y] [] (i64 (r.idx x y)) [] := by
  refine calls_to tok mix Tryz.func99 rfl rfl rfl ?_
  refine CallV.to _ (p_has r x y) rfl ?_
  refine Br.mk (fun h1 => LE_int (by unfold Rc.idx; rw [if_neg h1])) (fun h1 => ?_)
  have h1 := Decidable.not_not.1 h1
  obtain ⟨⟨⟨a1, a2⟩, ⟨b1, b2⟩, ⟨c1, c2⟩, d1, d2⟩, _, _⟩ := Rc.notmt h1.1
  obtain ⟨h2, h3, h4, h5, h6⟩ := h1
  have hm := mulb (show 0 ≤ y - r.y0 by omega) (show y - r.y0 ≤ 8192 by omega) (show 0 ≤ r.x1 - r.x0 by omega) (show r.x1 - r.x0 ≤ 8192 by omega)
  refine Ar.fit (by omega) ?_
  refine Ar.fit (by omega) ?_
  refine Ar.fit (by omega) ?_
  refine Ar.fit (by omega) ?_
  refine Ar.fit (by omega) ?_
  exact LE_int (by unfold Rc.idx Rc.w; rw [if_pos ⟨h2, h3, h4, h5, h6⟩])
set_option maxRecDepth 100000 in
theorem r_idx (r : Rc) (x y : Int) : CallsG Tryz.prog 26 [.agg (rcE r), i64 x, i64 y] [] (i64 (r.idx x y)) [] := by
  refine calls_to tok mix Tryz.func26 rfl rfl rfl ?_
  refine CallV.to _ (r_has r x y) rfl ?_
  refine Br.mk (fun h1 => LE_int (by unfold Rc.idx; rw [if_neg h1])) (fun h1 => ?_)
  have h1 := Decidable.not_not.1 h1
  obtain ⟨⟨⟨a1, a2⟩, ⟨b1, b2⟩, ⟨c1, c2⟩, d1, d2⟩, _, _⟩ := Rc.notmt h1.1
  obtain ⟨h2, h3, h4, h5, h6⟩ := h1
  have hm := mulb (show 0 ≤ y - r.y0 by omega) (show y - r.y0 ≤ 8192 by omega) (show 0 ≤ r.x1 - r.x0 by omega) (show r.x1 - r.x0 ≤ 8192 by omega)
  refine Ar.fit (by omega) ?_
  refine Ar.fit (by omega) ?_
  refine Ar.fit (by omega) ?_
  refine Ar.fit (by omega) ?_
  refine Ar.fit (by omega) ?_
  exact LE_int (by unfold Rc.idx Rc.w; rw [if_pos ⟨h2, h3, h4, h5, h6⟩])

end Go.Gs
