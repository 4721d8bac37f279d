/- The other text's natural numbers and integers: what rationals need. -/
import Derived.Test.YtlhelkkfjniioaaGreatNumC
import Derived.Test.YtlhelkkfjniioaaGreatNumD
namespace Go.Gs
open Go.Proofs

set_option maxRecDepth 100000 in
theorem r1_gcd (a b : List Dig) (ha : a.length ≤ 400000000) (hb : b.length ≤ 400000000) :
    CallsG Tryz.prog 94 [.sl dgE a, .sl dgE b] [] (.sl dgE (digs (Nat.gcd (val a) (val b)))) [] := by
  refine calls_to tok mix Tryz.func94 rfl rfl rfl ?_
  refine CallV.to _ (r1_normalizeP _ (by omega)) rfl ?_
  refine CallV.to _ (r1_normalizeP _ (by omega)) rfl ?_
  have hla := digs_val_len a
  have hlb := digs_val_len b
  refine ⟨Nat × Nat, fun ⟨A, B⟩ => ⟨[(5, .sl dgE (digs A)), (6, .sl dgE (digs B))], [], 0, 27, 0⟩,
    fun x => (digs x.1).length ≤ 400000000 ∧ (digs x.2).length ≤ 400000000 ∧ Nat.gcd x.1 x.2 = Nat.gcd (val a) (val b), fun x => x.2, (val a, val b), ?_, ?_, ?_⟩
  · exact ⟨by dsimp only; omega, by dsimp only; omega, rfl⟩
  · exact sub_of [] rfl rfl rfl ⟨rfl, rfl, trivial⟩ trivial
  rintro ⟨A, B⟩ ⟨h1, h2, h3⟩
  dsimp only at h1 h2 h3
  intro hl
  refine Br.mk (fun k => ?_) (fun k => ?_)
  · have hB : B ≠ 0 := digs_len_pos.1 (by omega)
    refine CallV.to _ (r1_divmod (digs A) (digs B) (by omega) (by omega) (by rw [val_digs]; exact hB)) rfl ?_
    rw [val_digs, val_digs]
    have hm := Nat.mod_lt A (Nat.pos_of_ne_zero hB)
    refine ⟨(B, A % B), ⟨h2, Nat.le_trans (digs_mono (Nat.le_of_lt hm)) h2, ?_⟩, sub_of [] rfl rfl rfl ⟨rfl, rfl, trivial⟩ trivial, hm⟩
    dsimp only
    rw [← h3, Nat.gcd_comm B, Nat.gcd_comm A B, Nat.gcd_rec B A]
  · have hB : B = 0 := digs_nil.1 (List.length_eq_zero_iff.1 (by omega))
    subst hB
    rw [Nat.gcd_zero_right] at h3
    exact LE_sl (by rw [h3])

theorem r2_newF (m : List Dig) (hm : m.length ≤ 1000000000) : CallsG Tryz.prog 65 [bl false, .sl dgE m] [] (.agg (biE (ofZ (val m)))) [] := by
  have := (r2_new False m hm).args (.cons (LE_false id) (.cons .refl .nil))
  rwa [if_neg id] at this
theorem r2_neg (a : BI) (hm : a.mag.length ≤ 1000000000) : CallsG Tryz.prog 95 [.agg (biE a)] [] (.agg (biE (ofZ (-a.v)))) [] := by
  refine calls_to tok mix Tryz.func95 rfl rfl rfl ?_
  refine CallV.to _ (r2_new (¬ a.neg = true) a.mag hm) rfl ?_
  have : (if ¬ a.neg = true then -(val a.mag : Int) else (val a.mag : Int)) = -a.v := by
    rcases a.v_eq with ⟨h1, h2⟩ | ⟨h1, h2⟩ <;> simp [h1, h2]
  rw [this]
  exact .refl

theorem r2_add (a b : BI) (ha : a.mag.length ≤ 800000000) (hb : b.mag.length ≤ 800000000) : CallsG Tryz.prog 69 [.agg (biE a), .agg (biE b)] [] (.agg (biE (ofZ (a.v + b.v)))) [] := by
  refine calls_to tok mix Tryz.func69 rfl rfl rfl ?_
  refine Br.mk (fun h => ?_) (fun h => ?_)
  · refine Dr.mk (by decide +kernel) ?_
    refine CallV.to _ (r1_addP a.mag b.mag (by omega) (by omega)) rfl ?_
    have hl := dadd_len ha hb
    refine CallV.to _ (r2_new (a.neg = true) _ (by omega)) rfl ?_
    have : (if a.neg = true then -(val (digs (val a.mag + val b.mag)) : Int) else (val (digs (val a.mag + val b.mag)) : Int)) = a.v + b.v := by
      rw [val_digs]
      rcases a.v_eq with ⟨h1, h2⟩ | ⟨h1, h2⟩ <;> rcases b.v_eq with ⟨h3, h4⟩ | ⟨h3, h4⟩ <;> simp [h1, h3] at h <;> simp [h1, h2, h4] <;> omega
    rw [this]
    exact .refl
  · refine CallV.to _ (r1_subP a.mag b.mag (by omega) (by omega)) rfl ?_
    have hl : (digs (val a.mag - val b.mag)).length ≤ 1000000000 := Nat.le_trans (digs_mono (Nat.sub_le _ _)) (Nat.le_trans (digs_val_len _) (by omega))
    have hl2 : (digs (val b.mag - val a.mag)).length ≤ 1000000000 := Nat.le_trans (digs_mono (Nat.sub_le _ _)) (Nat.le_trans (digs_val_len _) (by omega))
    refine Br.mk (fun h2 => ?_) (fun h2 => ?_)
    · refine CallV.to _ (r2_new (a.neg = true) _ hl) rfl ?_
      have : (if a.neg = true then -(val (digs (val a.mag - val b.mag)) : Int) else (val (digs (val a.mag - val b.mag)) : Int)) = a.v + b.v := by
        rw [val_digs]
        rcases a.v_eq with ⟨h1, h2⟩ | ⟨h1, h2⟩ <;> rcases b.v_eq with ⟨h3, h4⟩ | ⟨h3, h4⟩ <;> simp [h1, h3] at h <;> simp [h1, h2, h4] <;> omega
      rw [this]
      exact .refl
    · refine CallV.to _ (r1_subP b.mag a.mag (by omega) (by omega)) rfl ?_
      refine CallV.to _ (r2_new (b.neg = true) _ hl2) rfl ?_
      have : (if b.neg = true then -(val (digs (val b.mag - val a.mag)) : Int) else (val (digs (val b.mag - val a.mag)) : Int)) = a.v + b.v := by
        rw [val_digs]
        rcases a.v_eq with ⟨h1, h2⟩ | ⟨h1, h2⟩ <;> rcases b.v_eq with ⟨h3, h4⟩ | ⟨h3, h4⟩ <;> simp [h1, h3] at h <;> simp [h3, h2, h4] <;> omega
      rw [this]
      exact .refl
theorem r2_sub (a b : BI) (ha : a.mag.length ≤ 800000000) (hb : b.mag.length ≤ 800000000) : CallsG Tryz.prog 93 [.agg (biE a), .agg (biE b)] [] (.agg (biE (ofZ (a.v - b.v)))) [] := by
  refine calls_to tok mix Tryz.func93 rfl rfl rfl ?_
  refine Dr.mk (by decide +kernel) ?_
  refine CallV.to _ (r2_neg b (by omega)) rfl ?_
  have h1 := zlen_v b
  refine CallV.to _ (r2_add a (ofZ (-b.v)) (by omega) (by rw [ofZ_len, zlen_neg]; omega)) rfl ?_
  rw [ofZ_v, ← Int.sub_eq_add_neg]
  exact .refl
theorem r2_bitlen (a : BI) (ha : a.mag.length ≤ 900000000) : CallsG Tryz.prog 88 [.agg (biE a)] [] (i64 (nbits a.v.natAbs)) [] := by
  refine calls_to tok mix Tryz.func88 rfl rfl rfl ?_
  refine CallV.to _ (r1_bitlen a.mag ha) rfl ?_
  rw [BI.v_abs]
  exact .refl

theorem negdiv {A B : Nat} (hB : 0 < B) : (A % B = 0 → -(A : Int) / B = -((A / B : Nat) : Int) ∧ -(A : Int) % B = -((A % B : Nat) : Int)) ∧ (A % B ≠ 0 → -(A : Int) / B = -((A / B : Nat) : Int) - 1 ∧ -(A : Int) % B = -((A % B : Nat) : Int) + B) := by
  have hdm := Nat.div_add_mod A B
  have hm := Nat.mod_lt A hB
  generalize A / B = q at *
  generalize A % B = r at *
  have e : (B : Int) * (q : Int) = ((B * q : Nat) : Int) := (Int.natCast_mul _ _).symm
  have hB' : (0 : Int) < B := by omega
  refine ⟨fun h => (Int.ediv_emod_unique hB').2 ⟨?_, by omega, by omega⟩, fun h => (Int.ediv_emod_unique hB').2 ⟨?_, by omega, by omega⟩⟩
  · rw [Int.mul_neg, e]; omega
  · rw [Int.mul_sub, Int.mul_neg, e, Int.mul_one]; omega

theorem r2_divmod (a b : BI) (ha : a.mag.length ≤ 200000000) (hb : b.mag.length ≤ 200000000) (h0 : 0 < b.v) :
    CallsG Tryz.prog 67 [.agg (biE a), .agg (biE b)] [] (.tup [.agg (biE (ofZ (a.v / b.v))), .agg (biE (ofZ (a.v % b.v))), i64 0]) [] := by
  have hbv : b.neg = false ∧ b.v = (val b.mag : Int) := by
    rcases b.v_eq with ⟨h1, h2⟩ | h
    · omega
    · exact h
  have hB : 0 < val b.mag := by omega
  have q1 : (digs (val a.mag / val b.mag)).length ≤ 200000000 := Nat.le_trans (digs_mono (Nat.div_le_self _ _)) (Nat.le_trans (digs_val_len _) ha)
  have r1 : (digs (val a.mag % val b.mag)).length ≤ 200000000 := Nat.le_trans (digs_mono (Nat.mod_le _ _)) (Nat.le_trans (digs_val_len _) ha)
  have nb : ¬ b.neg = true := by rw [hbv.1]; decide
  refine calls_to tok mix Tryz.func67 rfl rfl rfl ?_
  refine CallV.to _ (r2_sign b (by omega)) rfl ?_
  refine Br.mk (fun h => absurd (Int.sign_eq_zero_iff_zero.1 h) (by omega)) (fun _ => ?_)
  refine CallV.to _ (r1_divmod a.mag b.mag (by omega) (by omega) (by omega)) rfl ?_
  refine CallV.to _ (r2_new (¬ (a.neg = true ↔ b.neg = true)) _ (by omega)) rfl ?_
  refine CallV.to _ (r2_new (a.neg = true) _ (by omega)) rfl ?_
  rw [val_digs, val_digs]
  rcases a.v_eq with ⟨h1, h2⟩ | ⟨h1, h2⟩
  · have pa : ¬ (a.neg = true ↔ b.neg = true) := by rw [h1, hbv.1]; decide
    rw [if_pos pa, if_pos h1]
    refine Br.mk (fun h3 => ?_) (fun h3 => absurd pa h3)
    have nd := negdiv (A := val a.mag) hB
    rw [← h2, ← hbv.2] at nd
    have k1 : zlen (-((val a.mag / val b.mag : Nat) : Int)) ≤ 200000000 := by rw [zlen_neg]; exact q1
    have k2 : zlen (-((val a.mag % val b.mag : Nat) : Int)) ≤ 200000000 := by rw [zlen_neg]; exact r1
    refine CallV.to _ (r2_sign (ofZ (-((val a.mag % val b.mag : Nat) : Int))) (by rw [ofZ_len]; omega)) rfl ?_
    rw [ofZ_v]
    refine Br.mk (fun h4 => ?_) (fun h4 => ?_)
    · have hr : val a.mag % val b.mag ≠ 0 := fun h => h4 (by rw [h]; rfl)
      refine Dr.mk (by decide +kernel) ?_
      refine CallV.to _ (r2_fromint 1 (by decide)) rfl ?_
      refine CallV.to _ (r2_sub (ofZ (-((val a.mag / val b.mag : Nat) : Int))) (ofZ 1) (by rw [ofZ_len]; omega) (by decide +kernel)) rfl ?_
      refine CallV.to _ (r2_add (ofZ (-((val a.mag % val b.mag : Nat) : Int))) b (by rw [ofZ_len]; omega) (by omega)) rfl ?_
      rw [ofZ_v, ofZ_v, ofZ_v, (nd.2 hr).1, (nd.2 hr).2]
      exact .refl
    · have hr : val a.mag % val b.mag = 0 := by
        have : (-((val a.mag % val b.mag : Nat) : Int)) = 0 := Int.sign_eq_zero_iff_zero.1 (Decidable.not_not.1 h4)
        omega
      refine Dr.dyn (Ob.mk (by decide +kernel) ?_)
      refine Ob.mk (by kernel_rfl) ?_
      rw [← (nd.1 hr).1, ← (nd.1 hr).2]
      exact .refl
  · have pa : ¬ ¬ (a.neg = true ↔ b.neg = true) := by rw [h1, hbv.1]; decide
    have na : ¬ a.neg = true := by rw [h1]; decide
    rw [if_neg pa, if_neg na]
    refine Br.mk (fun h3 => absurd h3 pa) (fun h3 => ?_)
    refine Dr.dyn (Ob.mk (by decide +kernel) ?_)
    refine Ob.mk (by kernel_rfl) ?_
    rw [h2, hbv.2, ← Int.natCast_ediv, ← Int.natCast_emod]
    exact .refl

end Go.Gs
/- The other text's rationals. -/
namespace Go.Gs
open Go.Proofs

theorem r3_fromInt (n : Int) (hn : R64 n) : CallsG Tryz.prog 39 [i64 n] [] (.agg (brE (ofQ (n : Rat)))) [] := by
  refine calls_to tok mix Tryz.func39 rfl rfl rfl ?_
  refine CallV.to _ (r2_fromint n hn) rfl ?_
  refine CallV.to _ (r2_fromint 1 (by decide)) rfl ?_
  have e : ofQ (n : Rat) = ⟨ofZ n, ofZ 1⟩ := by unfold ofQ; rw [Rat.num_intCast, Rat.den_intCast]; rfl
  rw [e]
  exact .refl

theorem natAbs_quo {n : Int} {g : Nat} : zlen (n / (g : Int)) ≤ zlen n := zlen_mono (Int.natAbs_ediv_le_natAbs _ _)
set_option maxRecDepth 100000 in
set_option maxHeartbeats 1000000 in
theorem r3_reduce (n d : BI) (hn : n.mag.length ≤ 200000000) (hd : d.mag.length ≤ 200000000) (h0 : d.v ≠ 0) :
    CallsG Tryz.prog 68 [.agg (biE n), .agg (biE d)] [] (.agg (brE (ofQ (Rat.divInt n.v d.v)))) [] := by
  refine calls_to tok mix Tryz.func68 rfl rfl rfl ?_
  refine CallV.to _ (r1_gcd n.mag d.mag (by omega) (by omega)) rfl ?_
  have hdz : val d.mag ≠ 0 := by rw [← d.v_abs]; omega
  have hg0 : 0 < Nat.gcd (val n.mag) (val d.mag) := Nat.gcd_pos_of_pos_right _ (by omega)
  have hgl : (digs (Nat.gcd (val n.mag) (val d.mag))).length ≤ 200000000 :=
    Nat.le_trans (digs_mono (Nat.gcd_le_right _ (by omega))) (Nat.le_trans (digs_val_len _) hd)
  have hnum := Rat.num_divInt n.v d.v
  have hden := Rat.den_divInt n.v d.v
  have hg : d.v.gcd n.v = Nat.gcd (val n.mag) (val d.mag) := by
    rw [← n.v_abs, ← d.v_abs]; exact Nat.gcd_comm _ _
  rw [hg] at hnum hden
  rw [if_neg h0] at hden
  have ln := zlen_v n
  have ld := zlen_v d
  generalize Nat.gcd (val n.mag) (val d.mag) = g at *
  refine CallV.to _ (r2_newF (digs g) (by omega)) rfl ?_
  rw [val_digs]
  have zg : zlen (g : Int) ≤ 200000000 := hgl
  have fin : ∀ N D : Int, N = d.v.sign * n.v → D = (d.v.natAbs : Int) → ofQ (Rat.divInt n.v d.v) = ⟨ofZ (N / (g : Int)), ofZ (D / (g : Int))⟩ := fun N D hN hD => by
    unfold ofQ; rw [hnum, hden, hN, hD]; rfl
  refine CallV.to _ (r2_sign d (by omega)) rfl ?_
  refine Br.mk (fun h => ?_) (fun h => ?_)
  · have hneg : d.v < 0 := by
      rcases Int.lt_trichotomy d.v 0 with k | k | k
      · exact k
      · exact absurd k h0
      · rw [Int.sign_eq_one_of_pos k] at h; omega
    refine CallV.to _ (r2_neg n (by omega)) rfl ?_
    refine CallV.to _ (r2_neg d (by omega)) rfl ?_
    refine CallV.to _ (r2_divmod (ofZ (-n.v)) (ofZ (g : Int)) (by rw [ofZ_len, zlen_neg]; omega) (by rw [ofZ_len]; omega) (by rw [ofZ_v]; omega)) rfl ?_
    refine CallV.to _ (r2_divmod (ofZ (-d.v)) (ofZ (g : Int)) (by rw [ofZ_len, zlen_neg]; omega) (by rw [ofZ_len]; omega) (by rw [ofZ_v]; omega)) rfl ?_
    rw [ofZ_v, ofZ_v, ofZ_v, fin (-n.v) (-d.v) (by rw [Int.sign_eq_neg_one_of_neg hneg]; omega) (by omega)]
    exact .refl
  · have hpos : 0 < d.v := by
      rcases Int.lt_trichotomy d.v 0 with k | k | k
      · rw [Int.sign_eq_neg_one_of_neg k] at h; omega
      · exact absurd k h0
      · exact k
    refine CallV.to _ (r2_divmod n (ofZ (g : Int)) (by omega) (by rw [ofZ_len]; omega) (by rw [ofZ_v]; omega)) rfl ?_
    refine CallV.to _ (r2_divmod d (ofZ (g : Int)) (by omega) (by rw [ofZ_len]; omega) (by rw [ofZ_v]; omega)) rfl ?_
    rw [ofZ_v, fin n.v d.v (by rw [Int.sign_eq_one_of_pos hpos]; omega) (by omega)]
    exact .refl

theorem r3_new (n d : BI) (hn : n.mag.length ≤ 200000000) (hd : d.mag.length ≤ 200000000) (h0 : d.v ≠ 0) :
    CallsG Tryz.prog 64 [.agg (biE n), .agg (biE d)] [] (.tup [.agg (brE (ofQ (Rat.divInt n.v d.v))), i64 0]) [] := by
  refine calls_to tok mix Tryz.func64 rfl rfl rfl ?_
  refine CallV.to _ (r2_sign d (by omega)) rfl ?_
  refine Br.mk (fun h => absurd (Int.sign_eq_zero_iff_zero.1 h) h0) (fun _ => ?_)
  refine CallV.to _ (r3_reduce n d hn hd h0) rfl ?_
  exact LE_tup2 .refl .refl

theorem r3_fromints (n d : Int) (hn : R64 n) (hd : R64 d) (h0 : d ≠ 0) : CallsG Tryz.prog 40 [i64 n, i64 d] [] (.tup [.agg (brE (ofQ (Rat.divInt n d))), i64 0]) [] := by
  refine calls_to tok mix Tryz.func40 rfl rfl rfl ?_
  have l1 := zlen_i64 hn
  have l2 := zlen_i64 hd
  refine CallV.to _ (r2_fromint n hn) rfl ?_
  refine CallV.to _ (r2_fromint d hd) rfl ?_
  refine CallV.to _ (r3_new (ofZ n) (ofZ d) (by rw [ofZ_len]; omega) (by rw [ofZ_len]; omega) (by rw [ofZ_v]; exact h0)) rfl ?_
  rw [ofZ_v, ofZ_v]
  exact LE_tup2 .refl .refl

theorem r3_normalize (a : BR) (ha : a.len ≤ 200000000) : CallsG Tryz.prog 66 [.agg (brE a)] [] (.agg (brE (ofQ a.v))) [] := by
  have h1 : a.num.mag.length ≤ a.len := Nat.le_max_left _ _
  have h2 : a.den.mag.length ≤ a.len := Nat.le_max_right _ _
  refine calls_to tok mix Tryz.func66 rfl rfl rfl ?_
  refine CallV.to _ (r2_sign a.den (by omega)) rfl ?_
  refine Br.mk (fun h => ?_) (fun h => ?_)
  · refine CallV.to _ (r3_fromInt 0 (by decide)) rfl ?_
    have e : a.v = ((0 : Int) : Rat) := by unfold BR.v; rw [Int.sign_eq_zero_iff_zero.1 h, Rat.divInt_zero]; rfl
    rw [e]
    exact .refl
  · refine CallV.to _ (r3_reduce a.num a.den (by omega) (by omega) (fun k => h (by rw [k]; rfl))) rfl ?_
    exact .refl

theorem r3_add (a b : BR) (ha : a.len ≤ 50000000) (hb : b.len ≤ 50000000) : CallsG Tryz.prog 43 [.agg (brE a), .agg (brE b)] [] (.agg (brE (ofQ (a.v + b.v)))) [] := by
  have h1 := qlen_v a
  have h2 := qlen_v b
  have h3 := ofQ_l a.v
  have h4 := ofQ_l b.v
  have n1 := qlen_num a.v
  have n2 := qlen_num b.v
  have d1 := qlen_den a.v
  have d2 := qlen_den b.v
  have m1 := zlen_mul a.v.num b.v.den
  have m2 := zlen_mul b.v.num a.v.den
  have m3 := zlen_mul a.v.den b.v.den
  have m4 := zlen_add (a.v.num * b.v.den) (b.v.num * a.v.den)
  refine calls_to tok mix Tryz.func43 rfl rfl rfl ?_
  refine Dr.mk (by decide +kernel) ?_
  refine CallV.to _ (r3_normalize a (by omega)) rfl ?_
  refine CallV.to _ (r3_normalize b (by omega)) rfl ?_
  refine Dr.mk (by decide +kernel) ?_
  refine CallV.to _ (r2_mul (ofQ a.v).num (ofQ b.v).den (by omega) (by omega)) rfl ?_
  refine CallV.to _ (r2_mul (ofQ b.v).num (ofQ a.v).den (by omega) (by omega)) rfl ?_
  rw [ofQ_num, ofQ_num, ofQ_den, ofQ_den]
  refine CallV.to _ (r2_add (ofZ (a.v.num * b.v.den)) (ofZ (b.v.num * a.v.den)) (by rw [ofZ_len]; omega) (by rw [ofZ_len]; omega)) rfl ?_
  rw [ofZ_v, ofZ_v]
  refine CallV.to _ (r2_mul (ofQ a.v).den (ofQ b.v).den (by omega) (by omega)) rfl ?_
  rw [ofQ_den, ofQ_den]
  refine CallV.to _ (r3_reduce (ofZ (a.v.num * b.v.den + b.v.num * a.v.den)) (ofZ (a.v.den * b.v.den)) (by rw [ofZ_len]; omega) (by rw [ofZ_len]; omega) (by rw [ofZ_v]; exact den_mul_ne _ _)) rfl ?_
  rw [ofZ_v, ofZ_v, q_add_eq]
  exact .refl

theorem r3_mul (a b : BR) (ha : a.len ≤ 50000000) (hb : b.len ≤ 50000000) : CallsG Tryz.prog 89 [.agg (brE a), .agg (brE b)] [] (.agg (brE (ofQ (a.v * b.v)))) [] := by
  have h1 := qlen_v a
  have h2 := qlen_v b
  have h3 := ofQ_l a.v
  have h4 := ofQ_l b.v
  have n1 := qlen_num a.v
  have n2 := qlen_num b.v
  have d1 := qlen_den a.v
  have d2 := qlen_den b.v
  have m1 := zlen_mul a.v.num b.v.num
  have m3 := zlen_mul a.v.den b.v.den
  refine calls_to tok mix Tryz.func89 rfl rfl rfl ?_
  refine Dr.mk (by decide +kernel) ?_
  refine CallV.to _ (r3_normalize a (by omega)) rfl ?_
  refine CallV.to _ (r3_normalize b (by omega)) rfl ?_
  refine Dr.mk (by decide +kernel) ?_
  refine CallV.to _ (r2_mul (ofQ a.v).num (ofQ b.v).num (by omega) (by omega)) rfl ?_
  refine CallV.to _ (r2_mul (ofQ a.v).den (ofQ b.v).den (by omega) (by omega)) rfl ?_
  rw [ofQ_num, ofQ_num, ofQ_den, ofQ_den]
  refine CallV.to _ (r3_reduce (ofZ (a.v.num * b.v.num)) (ofZ (a.v.den * b.v.den)) (by rw [ofZ_len]; omega) (by rw [ofZ_len]; omega) (by rw [ofZ_v]; exact den_mul_ne _ _)) rfl ?_
  rw [ofZ_v, ofZ_v, q_mul_eq]
  exact .refl

theorem r3_floor (a : BR) (ha : a.len ≤ 100000000) : CallsG Tryz.prog 42 [.agg (brE a)] [] (.agg (biE (ofZ a.v.floor))) [] := by
  have h1 := qlen_v a
  have h3 := ofQ_l a.v
  have h0 := a.v.den_nz
  refine calls_to tok mix Tryz.func42 rfl rfl rfl ?_
  refine CallV.to _ (r3_normalize a (by omega)) rfl ?_
  refine CallV.to _ (r2_divmod (ofQ a.v).num (ofQ a.v).den (by omega) (by omega) (by rw [ofQ_den]; omega)) rfl ?_
  rw [ofQ_num, ofQ_den, ← Rat.floor_def]
  exact .refl

theorem r3_bitlen (a : BR) (ha : a.len ≤ 100000000) : CallsG Tryz.prog 61 [.agg (brE a)] [] (i64 (qbits a.v)) [] := by
  have h1 := qlen_v a
  have h3 := ofQ_l a.v
  refine calls_to tok mix Tryz.func61 rfl rfl rfl ?_
  refine CallV.to _ (r3_normalize a (by omega)) rfl ?_
  refine Dr.mk (by decide +kernel) ?_
  refine CallV.to _ (r2_bitlen (ofQ a.v).num (by omega)) rfl ?_
  refine CallV.to _ (r2_bitlen (ofQ a.v).den (by omega)) rfl ?_
  rw [ofQ_num, ofQ_den, Int.natAbs_natCast]
  refine LE_int ?_
  unfold qbits
  simp only [maxL]
  omega

end Go.Gs
/- The other text's transforms. -/
namespace Go.Gs
open Go.Proofs

/-- The six numbers. -/
def coefs (t : AF) : List BR := [t.a, t.b, t.c, t.d, t.e, t.f]
theorem coefs_at {t : AF} {i : Nat} {x : BR} (h : (coefs t)[i]? = some x) : x = t.nth i := by
  have : i < 6 := (List.getElem?_eq_some_iff.1 h).1
  have e : i = 0 ∨ i = 1 ∨ i = 2 ∨ i = 3 ∨ i = 4 ∨ i = 5 := by omega
  rcases e with rfl | rfl | rfl | rfl | rfl | rfl <;> (cases h; rfl)
theorem coefs_le {t : AF} {n : Nat} (h : t.le n) : ∀ i, (t.nth i).len ≤ n := fun i => by
  obtain ⟨h1, h2, h3, h4, h5, h6⟩ := h
  unfold AF.nth; split <;> assumption

set_option maxRecDepth 100000 in
theorem r12_coefs (t : AF) : CallsG Tryz.prog 60 [.agg (afE t)] [] (.sl brE (coefs t)) [] := by
  refine calls_to tok mix Tryz.func60 rfl rfl rfl ?_
  refine ⟨BR, brE, coefs t, rfl, Ob.mk ⟨rfl, by decide, by decide, by decide, fun x _ => ⟨rfl, rfl, rfl⟩⟩ ?_⟩
  exact .refl

set_option maxRecDepth 100000 in
theorem r12_valid (t : AF) (ht : t.le 100000000) : CallsG Tryz.prog 36 [.agg (afE t)] [] (pr t.ok) [] := by
  refine calls_to tok mix Tryz.func36 rfl rfl rfl ?_
  refine CallV.to _ (r12_coefs t) rfl ?_
  refine ⟨Nat, fun i => ⟨[(4, i64 i), (3, .sl brE (coefs t))], [], 1, 19, 0⟩, fun i => i ≤ 6 ∧ okI t i, fun i => 6 - i, 0, ⟨Nat.zero_le _, trivial⟩, ?_, ?_⟩
  · exact sub_of [] rfl rfl rfl ⟨rfl, rfl, trivial⟩ trivial
  rintro i ⟨h1, h2⟩
  intro hl
  have hl6 : (coefs t).length = 6 := rfl
  refine Br.mk (fun h3 => ?_) (fun h3 => ?_)
  · refine Ob.mk ⟨by omega, by omega⟩ ?_
    intro x hx
    have hx : (coefs t)[i]? = some x := hx
    have hx := coefs_at hx
    subst hx
    refine CallV.to _ (r3_bitlen (t.nth i) (coefs_le ht i)) rfl ?_
    refine Br.mk (fun h4 => ?_) (fun h4 => ?_)
    · refine LE_false fun h => ?_
      have e : i = 0 ∨ i = 1 ∨ i = 2 ∨ i = 3 ∨ i = 4 ∨ i = 5 := by omega
      simp only [AF.ok, okI] at h
      rcases e with rfl | rfl | rfl | rfl | rfl | rfl <;> omega
    · refine Ar.fit (by omega) ?_
      exact ⟨i + 1, ⟨by omega, h2, by omega⟩, sub_of [] rfl rfl rfl ⟨rfl, rfl, trivial⟩ trivial, by dsimp only; omega⟩
  · have : i = 6 := by omega
    subst this
    exact LE_true h2

theorem r12_dot (a b c d : BR) (ha : a.len ≤ 10000000) (hb : b.len ≤ 10000000) (hc : c.len ≤ 10000000) (hd : d.len ≤ 10000000) :
    CallsG Tryz.prog 62 [.agg (brE a), .agg (brE b), .agg (brE c), .agg (brE d)] [] (.agg (brE (ofQ (a.v * b.v + c.v * d.v)))) [] := by
  have l1 := qlen_v a
  have l2 := qlen_v b
  have l3 := qlen_v c
  have l4 := qlen_v d
  have m1 := qlen_mul a.v b.v
  have m2 := qlen_mul c.v d.v
  refine calls_to tok mix Tryz.func62 rfl rfl rfl ?_
  refine Dr.mk (by decide +kernel) ?_
  refine CallV.to _ (r3_mul a b (by omega) (by omega)) rfl ?_
  refine CallV.to _ (r3_mul c d (by omega) (by omega)) rfl ?_
  refine CallV.to _ (r3_add (ofQ (a.v * b.v)) (ofQ (c.v * d.v)) (by rw [ofQ_len]; omega) (by rw [ofQ_len]; omega)) rfl ?_
  rw [ofQ_v, ofQ_v]
  exact .refl

set_option maxRecDepth 100000 in
set_option maxHeartbeats 4000000 in
theorem r12_exact (t : AF) (x y : BR) (ht : t.le 5000000) (hx : x.len ≤ 5000000) (hy : y.len ≤ 5000000) :
    CallsG Tryz.prog 38 [.agg (afE t), .agg (brE x), .agg (brE y)] [] (.tup [.agg (brE (ofQ (applX t x.v y.v))), .agg (brE (ofQ (applY t x.v y.v)))]) [] := by
  obtain ⟨ha, hb, hc, hd, he, hf⟩ := ht
  have m1 := qlen_twos t.a x t.c y t.e ha hx hc hy he
  have m2 := qlen_twos t.b x t.d y t.f hb hx hd hy hf
  refine calls_to tok mix Tryz.func38 rfl rfl rfl ?_
  refine Dr.mk (by decide +kernel) ?_
  refine CallV.to _ (r12_dot t.a x t.c y (by omega) (by omega) (by omega) (by omega)) rfl ?_
  refine CallV.to _ (r3_add (ofQ (t.a.v * x.v + t.c.v * y.v)) t.e (by rw [ofQ_len]; omega) (by omega)) rfl ?_
  refine CallV.to _ (r12_dot t.b x t.d y (by omega) (by omega) (by omega) (by omega)) rfl ?_
  refine CallV.to _ (r3_add (ofQ (t.b.v * x.v + t.d.v * y.v)) t.f (by rw [ofQ_len]; omega) (by omega)) rfl ?_
  rw [ofQ_v, ofQ_v]
  exact .refl

end Go.Gs
