/- The other text's natural numbers and integers: what rationals need. -/
import Derived.Test.YtjfbljononkmcaaGreatNumC
namespace Go.Gs
open Go.Proofs

set_option maxRecDepth 100000 in
theorem r1_gcd (a b : List Dig) (ha : a.length ≤ 400000000) (hb : b.length ≤ 400000000) :
    CallsG Tryz.prog 63 [.sl dgE a, .sl dgE b] [] (.sl dgE (digs (Nat.gcd (val a) (val b)))) [] := by
  refine calls_to tok mix Tryz.func63 rfl rfl rfl ?_
  refine CallV.to _ (r1_normalizeP _ (by omega)) rfl ?_
  refine CallV.to _ (r1_normalizeP _ (by omega)) rfl ?_
  have hla := digs_val_len a
  have hlb := digs_val_len b
  refine ⟨Nat × Nat, fun ⟨A, B⟩ => ⟨[(5, .sl dgE (digs A)), (6, .sl dgE (digs B))], [], 0, 27, 0⟩,
    fun x => (digs x.1).length ≤ 400000000 ∧ (digs x.2).length ≤ 400000000 ∧ Nat.gcd x.1 x.2 = Nat.gcd (val a) (val b), fun x => x.2, (val a, val b), ?_, ?_, ?_⟩
  · exact ⟨by dsimp only; omega, by dsimp only; omega, rfl⟩
  · exact sub_of [] rfl rfl rfl ⟨rfl, rfl, trivial⟩ trivial
  rintro ⟨A, B⟩ ⟨h1, h2, h3⟩
  dsimp only at h1 h2 h3
  intro hl
  refine Br.mk (fun k => ?_) (fun k => ?_)
  · have hB : B ≠ 0 := digs_len_pos.1 (by omega)
    refine CallV.to _ (r1_divmod (digs A) (digs B) (by omega) (by omega) (by rw [val_digs]; exact hB)) rfl ?_
    rw [val_digs, val_digs]
    have hm := Nat.mod_lt A (Nat.pos_of_ne_zero hB)
    refine ⟨(B, A % B), ⟨h2, Nat.le_trans (digs_mono (Nat.le_of_lt hm)) h2, ?_⟩, sub_of [] rfl rfl rfl ⟨rfl, rfl, trivial⟩ trivial, hm⟩
    dsimp only
    rw [← h3, Nat.gcd_comm B, Nat.gcd_comm A B, Nat.gcd_rec B A]
  · have hB : B = 0 := digs_nil.1 (List.length_eq_zero_iff.1 (by omega))
    subst hB
    rw [Nat.gcd_zero_right] at h3
    exact LE_sl (by rw [h3])

theorem r2_newF (m : List Dig) (hm : m.length ≤ 1000000000) : CallsG Tryz.prog 59 [bl false, .sl dgE m] [] (.agg (biE (ofZ (val m)))) [] := by
  have := (r2_new False m hm).args (.cons (LE_false id) (.cons .refl .nil))
  rwa [if_neg id] at this
theorem r2_neg (a : BI) (hm : a.mag.length ≤ 1000000000) : CallsG Tryz.prog 34 [.agg (biE a)] [] (.agg (biE (ofZ (-a.v)))) [] := by
  refine calls_to tok mix Tryz.func34 rfl rfl rfl ?_
  refine CallV.to _ (r2_new (¬ a.neg = true) a.mag hm) rfl ?_
  have : (if ¬ a.neg = true then -(val a.mag : Int) else (val a.mag : Int)) = -a.v := by
    rcases a.v_eq with ⟨h1, h2⟩ | ⟨h1, h2⟩ <;> simp [h1, h2]
  rw [this]
  exact .refl

theorem r2_add (a b : BI) (ha : a.mag.length ≤ 800000000) (hb : b.mag.length ≤ 800000000) : CallsG Tryz.prog 36 [.agg (biE a), .agg (biE b)] [] (.agg (biE (ofZ (a.v + b.v)))) [] := by
  refine calls_to tok mix Tryz.func36 rfl rfl rfl ?_
  refine Br.mk (fun h => ?_) (fun h => ?_)
  · refine Dr.mk (by decide +kernel) ?_
    refine CallV.to _ (r1_addP a.mag b.mag (by omega) (by omega)) rfl ?_
    have hl := dadd_len ha hb
    refine CallV.to _ (r2_new (a.neg = true) _ (by omega)) rfl ?_
    have : (if a.neg = true then -(val (digs (val a.mag + val b.mag)) : Int) else (val (digs (val a.mag + val b.mag)) : Int)) = a.v + b.v := by
      rw [val_digs]
      rcases a.v_eq with ⟨h1, h2⟩ | ⟨h1, h2⟩ <;> rcases b.v_eq with ⟨h3, h4⟩ | ⟨h3, h4⟩ <;> simp [h1, h3] at h <;> simp [h1, h2, h4] <;> omega
    rw [this]
    exact .refl
  · refine CallV.to _ (r1_subP a.mag b.mag (by omega) (by omega)) rfl ?_
    have hl : (digs (val a.mag - val b.mag)).length ≤ 1000000000 := Nat.le_trans (digs_mono (Nat.sub_le _ _)) (Nat.le_trans (digs_val_len _) (by omega))
    have hl2 : (digs (val b.mag - val a.mag)).length ≤ 1000000000 := Nat.le_trans (digs_mono (Nat.sub_le _ _)) (Nat.le_trans (digs_val_len _) (by omega))
    refine Br.mk (fun h2 => ?_) (fun h2 => ?_)
    · refine CallV.to _ (r2_new (a.neg = true) _ hl) rfl ?_
      have : (if a.neg = true then -(val (digs (val a.mag - val b.mag)) : Int) else (val (digs (val a.mag - val b.mag)) : Int)) = a.v + b.v := by
        rw [val_digs]
        rcases a.v_eq with ⟨h1, h2⟩ | ⟨h1, h2⟩ <;> rcases b.v_eq with ⟨h3, h4⟩ | ⟨h3, h4⟩ <;> simp [h1, h3] at h <;> simp [h1, h2, h4] <;> omega
      rw [this]
      exact .refl
    · refine CallV.to _ (r1_subP b.mag a.mag (by omega) (by omega)) rfl ?_
      refine CallV.to _ (r2_new (b.neg = true) _ hl2) rfl ?_
      have : (if b.neg = true then -(val (digs (val b.mag - val a.mag)) : Int) else (val (digs (val b.mag - val a.mag)) : Int)) = a.v + b.v := by
        rw [val_digs]
        rcases a.v_eq with ⟨h1, h2⟩ | ⟨h1, h2⟩ <;> rcases b.v_eq with ⟨h3, h4⟩ | ⟨h3, h4⟩ <;> simp [h1, h3] at h <;> simp [h3, h2, h4] <;> omega
      rw [this]
      exact .refl
theorem r2_sub (a b : BI) (ha : a.mag.length ≤ 800000000) (hb : b.mag.length ≤ 800000000) : CallsG Tryz.prog 61 [.agg (biE a), .agg (biE b)] [] (.agg (biE (ofZ (a.v - b.v)))) [] := by
  refine calls_to tok mix Tryz.func61 rfl rfl rfl ?_
  refine Dr.mk (by decide +kernel) ?_
  refine CallV.to _ (r2_neg b (by omega)) rfl ?_
  have h1 := zlen_v b
  refine CallV.to _ (r2_add a (ofZ (-b.v)) (by omega) (by rw [ofZ_len, zlen_neg]; omega)) rfl ?_
  rw [ofZ_v, ← Int.sub_eq_add_neg]
  exact .refl
theorem negdiv {A B : Nat} (hB : 0 < B) : (A % B = 0 → -(A : Int) / B = -((A / B : Nat) : Int) ∧ -(A : Int) % B = -((A % B : Nat) : Int)) ∧ (A % B ≠ 0 → -(A : Int) / B = -((A / B : Nat) : Int) - 1 ∧ -(A : Int) % B = -((A % B : Nat) : Int) + B) := by
  have hdm := Nat.div_add_mod A B
  have hm := Nat.mod_lt A hB
  generalize A / B = q at *
  generalize A % B = r at *
  have e : (B : Int) * (q : Int) = ((B * q : Nat) : Int) := (Int.natCast_mul _ _).symm
  have hB' : (0 : Int) < B := by omega
  refine ⟨fun h => (Int.ediv_emod_unique hB').2 ⟨?_, by omega, by omega⟩, fun h => (Int.ediv_emod_unique hB').2 ⟨?_, by omega, by omega⟩⟩
  · rw [Int.mul_neg, e]; omega
  · rw [Int.mul_sub, Int.mul_neg, e, Int.mul_one]; omega

theorem r2_divmod (a b : BI) (ha : a.mag.length ≤ 200000000) (hb : b.mag.length ≤ 200000000) (h0 : 0 < b.v) :
    CallsG Tryz.prog 64 [.agg (biE a), .agg (biE b)] [] (.tup [.agg (biE (ofZ (a.v / b.v))), .agg (biE (ofZ (a.v % b.v))), i64 0]) [] := by
  have hbv : b.neg = false ∧ b.v = (val b.mag : Int) := by
    rcases b.v_eq with ⟨h1, h2⟩ | h
    · omega
    · exact h
  have hB : 0 < val b.mag := by omega
  have q1 : (digs (val a.mag / val b.mag)).length ≤ 200000000 := Nat.le_trans (digs_mono (Nat.div_le_self _ _)) (Nat.le_trans (digs_val_len _) ha)
  have r1 : (digs (val a.mag % val b.mag)).length ≤ 200000000 := Nat.le_trans (digs_mono (Nat.mod_le _ _)) (Nat.le_trans (digs_val_len _) ha)
  have nb : ¬ b.neg = true := by rw [hbv.1]; decide
  refine calls_to tok mix Tryz.func64 rfl rfl rfl ?_
  refine CallV.to _ (r2_sign b (by omega)) rfl ?_
  refine Br.mk (fun h => absurd (Int.sign_eq_zero_iff_zero.1 h) (by omega)) (fun _ => ?_)
  refine CallV.to _ (r1_divmod a.mag b.mag (by omega) (by omega) (by omega)) rfl ?_
  refine CallV.to _ (r2_new (¬ (a.neg = true ↔ b.neg = true)) _ (by omega)) rfl ?_
  refine CallV.to _ (r2_new (a.neg = true) _ (by omega)) rfl ?_
  rw [val_digs, val_digs]
  rcases a.v_eq with ⟨h1, h2⟩ | ⟨h1, h2⟩
  · have pa : ¬ (a.neg = true ↔ b.neg = true) := by rw [h1, hbv.1]; decide
    rw [if_pos pa, if_pos h1]
    refine Br.mk (fun h3 => ?_) (fun h3 => absurd pa h3)
    have nd := negdiv (A := val a.mag) hB
    rw [← h2, ← hbv.2] at nd
    have k1 : zlen (-((val a.mag / val b.mag : Nat) : Int)) ≤ 200000000 := by rw [zlen_neg]; exact q1
    have k2 : zlen (-((val a.mag % val b.mag : Nat) : Int)) ≤ 200000000 := by rw [zlen_neg]; exact r1
    refine CallV.to _ (r2_sign (ofZ (-((val a.mag % val b.mag : Nat) : Int))) (by rw [ofZ_len]; omega)) rfl ?_
    rw [ofZ_v]
    refine Br.mk (fun h4 => ?_) (fun h4 => ?_)
    · have hr : val a.mag % val b.mag ≠ 0 := fun h => h4 (by rw [h]; rfl)
      refine Dr.mk (by decide +kernel) ?_
      refine CallV.to _ (r2_fromint 1 (by decide)) rfl ?_
      refine CallV.to _ (r2_sub (ofZ (-((val a.mag / val b.mag : Nat) : Int))) (ofZ 1) (by rw [ofZ_len]; omega) (by decide +kernel)) rfl ?_
      refine CallV.to _ (r2_add (ofZ (-((val a.mag % val b.mag : Nat) : Int))) b (by rw [ofZ_len]; omega) (by omega)) rfl ?_
      rw [ofZ_v, ofZ_v, ofZ_v, (nd.2 hr).1, (nd.2 hr).2]
      exact .refl
    · have hr : val a.mag % val b.mag = 0 := by
        have : (-((val a.mag % val b.mag : Nat) : Int)) = 0 := Int.sign_eq_zero_iff_zero.1 (Decidable.not_not.1 h4)
        omega
      refine Dr.dyn (Ob.mk (by decide +kernel) ?_)
      refine Ob.mk (by kernel_rfl) ?_
      rw [← (nd.1 hr).1, ← (nd.1 hr).2]
      exact .refl
  · have pa : ¬ ¬ (a.neg = true ↔ b.neg = true) := by rw [h1, hbv.1]; decide
    have na : ¬ a.neg = true := by rw [h1]; decide
    rw [if_neg pa, if_neg na]
    refine Br.mk (fun h3 => absurd h3 pa) (fun h3 => ?_)
    refine Dr.dyn (Ob.mk (by decide +kernel) ?_)
    refine Ob.mk (by kernel_rfl) ?_
    rw [h2, hbv.2, ← Int.natCast_ediv, ← Int.natCast_emod]
    exact .refl

end Go.Gs
/- The other text's rationals. -/
namespace Go.Gs
open Go.Proofs

theorem r3_fromInt (n : Int) (hn : R64 n) : CallsG Tryz.prog 12 [i64 n] [] (.agg (brE (ofQ (n : Rat)))) [] := by
  refine calls_to tok mix Tryz.func12 rfl rfl rfl ?_
  refine CallV.to _ (r2_fromint n hn) rfl ?_
  refine CallV.to _ (r2_fromint 1 (by decide)) rfl ?_
  have e : ofQ (n : Rat) = ⟨ofZ n, ofZ 1⟩ := by unfold ofQ; rw [Rat.num_intCast, Rat.den_intCast]; rfl
  rw [e]
  exact .refl

theorem natAbs_quo {n : Int} {g : Nat} : zlen (n / (g : Int)) ≤ zlen n := zlen_mono (Int.natAbs_ediv_le_natAbs _ _)
set_option maxRecDepth 100000 in
set_option maxHeartbeats 1000000 in
theorem r3_reduce (n d : BI) (hn : n.mag.length ≤ 200000000) (hd : d.mag.length ≤ 200000000) (h0 : d.v ≠ 0) :
    CallsG Tryz.prog 35 [.agg (biE n), .agg (biE d)] [] (.agg (brE (ofQ (Rat.divInt n.v d.v)))) [] := by
  refine calls_to tok mix Tryz.func35 rfl rfl rfl ?_
  refine CallV.to _ (r1_gcd n.mag d.mag (by omega) (by omega)) rfl ?_
  have hdz : val d.mag ≠ 0 := by rw [← d.v_abs]; omega
  have hg0 : 0 < Nat.gcd (val n.mag) (val d.mag) := Nat.gcd_pos_of_pos_right _ (by omega)
  have hgl : (digs (Nat.gcd (val n.mag) (val d.mag))).length ≤ 200000000 :=
    Nat.le_trans (digs_mono (Nat.gcd_le_right _ (by omega))) (Nat.le_trans (digs_val_len _) hd)
  have hnum := Rat.num_divInt n.v d.v
  have hden := Rat.den_divInt n.v d.v
  have hg : d.v.gcd n.v = Nat.gcd (val n.mag) (val d.mag) := by
    rw [← n.v_abs, ← d.v_abs]; exact Nat.gcd_comm _ _
  rw [hg] at hnum hden
  rw [if_neg h0] at hden
  have ln := zlen_v n
  have ld := zlen_v d
  generalize Nat.gcd (val n.mag) (val d.mag) = g at *
  refine CallV.to _ (r2_newF (digs g) (by omega)) rfl ?_
  rw [val_digs]
  have zg : zlen (g : Int) ≤ 200000000 := hgl
  have fin : ∀ N D : Int, N = d.v.sign * n.v → D = (d.v.natAbs : Int) → ofQ (Rat.divInt n.v d.v) = ⟨ofZ (N / (g : Int)), ofZ (D / (g : Int))⟩ := fun N D hN hD => by
    unfold ofQ; rw [hnum, hden, hN, hD]; rfl
  refine CallV.to _ (r2_sign d (by omega)) rfl ?_
  refine Br.mk (fun h => ?_) (fun h => ?_)
  · have hneg : d.v < 0 := by
      rcases Int.lt_trichotomy d.v 0 with k | k | k
      · exact k
      · exact absurd k h0
      · rw [Int.sign_eq_one_of_pos k] at h; omega
    refine CallV.to _ (r2_neg n (by omega)) rfl ?_
    refine CallV.to _ (r2_neg d (by omega)) rfl ?_
    refine CallV.to _ (r2_divmod (ofZ (-n.v)) (ofZ (g : Int)) (by rw [ofZ_len, zlen_neg]; omega) (by rw [ofZ_len]; omega) (by rw [ofZ_v]; omega)) rfl ?_
    refine CallV.to _ (r2_divmod (ofZ (-d.v)) (ofZ (g : Int)) (by rw [ofZ_len, zlen_neg]; omega) (by rw [ofZ_len]; omega) (by rw [ofZ_v]; omega)) rfl ?_
    rw [ofZ_v, ofZ_v, ofZ_v, fin (-n.v) (-d.v) (by rw [Int.sign_eq_neg_one_of_neg hneg]; omega) (by omega)]
    exact .refl
  · have hpos : 0 < d.v := by
      rcases Int.lt_trichotomy d.v 0 with k | k | k
      · rw [Int.sign_eq_neg_one_of_neg k] at h; omega
      · exact absurd k h0
      · exact k
    refine CallV.to _ (r2_divmod n (ofZ (g : Int)) (by omega) (by rw [ofZ_len]; omega) (by rw [ofZ_v]; omega)) rfl ?_
    refine CallV.to _ (r2_divmod d (ofZ (g : Int)) (by omega) (by rw [ofZ_len]; omega) (by rw [ofZ_v]; omega)) rfl ?_
    rw [ofZ_v, fin n.v d.v (by rw [Int.sign_eq_one_of_pos hpos]; omega) (by omega)]
    exact .refl

theorem r3_new (n d : BI) (hn : n.mag.length ≤ 200000000) (hd : d.mag.length ≤ 200000000) (h0 : d.v ≠ 0) :
    CallsG Tryz.prog 37 [.agg (biE n), .agg (biE d)] [] (.tup [.agg (brE (ofQ (Rat.divInt n.v d.v))), i64 0]) [] := by
  refine calls_to tok mix Tryz.func37 rfl rfl rfl ?_
  refine CallV.to _ (r2_sign d (by omega)) rfl ?_
  refine Br.mk (fun h => absurd (Int.sign_eq_zero_iff_zero.1 h) h0) (fun _ => ?_)
  refine CallV.to _ (r3_reduce n d hn hd h0) rfl ?_
  exact LE_tup2 .refl .refl

theorem r3_fromints (n d : Int) (hn : R64 n) (hd : R64 d) (h0 : d ≠ 0) : CallsG Tryz.prog 17 [i64 n, i64 d] [] (.tup [.agg (brE (ofQ (Rat.divInt n d))), i64 0]) [] := by
  refine calls_to tok mix Tryz.func17 rfl rfl rfl ?_
  have l1 := zlen_i64 hn
  have l2 := zlen_i64 hd
  refine CallV.to _ (r2_fromint n hn) rfl ?_
  refine CallV.to _ (r2_fromint d hd) rfl ?_
  refine CallV.to _ (r3_new (ofZ n) (ofZ d) (by rw [ofZ_len]; omega) (by rw [ofZ_len]; omega) (by rw [ofZ_v]; exact h0)) rfl ?_
  rw [ofZ_v, ofZ_v]
  exact LE_tup2 .refl .refl

theorem r3_normalize (a : BR) (ha : a.len ≤ 200000000) : CallsG Tryz.prog 31 [.agg (brE a)] [] (.agg (brE (ofQ a.v))) [] := by
  have h1 : a.num.mag.length ≤ a.len := Nat.le_max_left _ _
  have h2 : a.den.mag.length ≤ a.len := Nat.le_max_right _ _
  refine calls_to tok mix Tryz.func31 rfl rfl rfl ?_
  refine CallV.to _ (r2_sign a.den (by omega)) rfl ?_
  refine Br.mk (fun h => ?_) (fun h => ?_)
  · refine CallV.to _ (r3_fromInt 0 (by decide)) rfl ?_
    have e : a.v = ((0 : Int) : Rat) := by unfold BR.v; rw [Int.sign_eq_zero_iff_zero.1 h, Rat.divInt_zero]; rfl
    rw [e]
    exact .refl
  · refine CallV.to _ (r3_reduce a.num a.den (by omega) (by omega) (fun k => h (by rw [k]; rfl))) rfl ?_
    exact .refl

theorem r3_add (a b : BR) (ha : a.len ≤ 50000000) (hb : b.len ≤ 50000000) : CallsG Tryz.prog 15 [.agg (brE a), .agg (brE b)] [] (.agg (brE (ofQ (a.v + b.v)))) [] := by
  have h1 := qlen_v a
  have h2 := qlen_v b
  have h3 := ofQ_l a.v
  have h4 := ofQ_l b.v
  have n1 := qlen_num a.v
  have n2 := qlen_num b.v
  have d1 := qlen_den a.v
  have d2 := qlen_den b.v
  have m1 := zlen_mul a.v.num b.v.den
  have m2 := zlen_mul b.v.num a.v.den
  have m3 := zlen_mul a.v.den b.v.den
  have m4 := zlen_add (a.v.num * b.v.den) (b.v.num * a.v.den)
  refine calls_to tok mix Tryz.func15 rfl rfl rfl ?_
  refine Dr.mk (by decide +kernel) ?_
  refine CallV.to _ (r3_normalize a (by omega)) rfl ?_
  refine CallV.to _ (r3_normalize b (by omega)) rfl ?_
  refine Dr.mk (by decide +kernel) ?_
  refine CallV.to _ (r2_mul (ofQ a.v).num (ofQ b.v).den (by omega) (by omega)) rfl ?_
  refine CallV.to _ (r2_mul (ofQ b.v).num (ofQ a.v).den (by omega) (by omega)) rfl ?_
  rw [ofQ_num, ofQ_num, ofQ_den, ofQ_den]
  refine CallV.to _ (r2_add (ofZ (a.v.num * b.v.den)) (ofZ (b.v.num * a.v.den)) (by rw [ofZ_len]; omega) (by rw [ofZ_len]; omega)) rfl ?_
  rw [ofZ_v, ofZ_v]
  refine CallV.to _ (r2_mul (ofQ a.v).den (ofQ b.v).den (by omega) (by omega)) rfl ?_
  rw [ofQ_den, ofQ_den]
  refine CallV.to _ (r3_reduce (ofZ (a.v.num * b.v.den + b.v.num * a.v.den)) (ofZ (a.v.den * b.v.den)) (by rw [ofZ_len]; omega) (by rw [ofZ_len]; omega) (by rw [ofZ_v]; exact den_mul_ne _ _)) rfl ?_
  rw [ofZ_v, ofZ_v, q_add_eq]
  exact .refl

theorem r3_mul (a b : BR) (ha : a.len ≤ 50000000) (hb : b.len ≤ 50000000) : CallsG Tryz.prog 58 [.agg (brE a), .agg (brE b)] [] (.agg (brE (ofQ (a.v * b.v)))) [] := by
  have h1 := qlen_v a
  have h2 := qlen_v b
  have h3 := ofQ_l a.v
  have h4 := ofQ_l b.v
  have n1 := qlen_num a.v
  have n2 := qlen_num b.v
  have d1 := qlen_den a.v
  have d2 := qlen_den b.v
  have m1 := zlen_mul a.v.num b.v.num
  have m3 := zlen_mul a.v.den b.v.den
  refine calls_to tok mix Tryz.func58 rfl rfl rfl ?_
  refine Dr.mk (by decide +kernel) ?_
  refine CallV.to _ (r3_normalize a (by omega)) rfl ?_
  refine CallV.to _ (r3_normalize b (by omega)) rfl ?_
  refine Dr.mk (by decide +kernel) ?_
  refine CallV.to _ (r2_mul (ofQ a.v).num (ofQ b.v).num (by omega) (by omega)) rfl ?_
  refine CallV.to _ (r2_mul (ofQ a.v).den (ofQ b.v).den (by omega) (by omega)) rfl ?_
  rw [ofQ_num, ofQ_num, ofQ_den, ofQ_den]
  refine CallV.to _ (r3_reduce (ofZ (a.v.num * b.v.num)) (ofZ (a.v.den * b.v.den)) (by rw [ofZ_len]; omega) (by rw [ofZ_len]; omega) (by rw [ofZ_v]; exact den_mul_ne _ _)) rfl ?_
  rw [ofZ_v, ofZ_v, q_mul_eq]
  exact .refl

theorem r3_floor (a : BR) (ha : a.len ≤ 100000000) : CallsG Tryz.prog 56 [.agg (brE a)] [] (.agg (biE (ofZ a.v.floor))) [] := by
  have h1 := qlen_v a
  have h3 := ofQ_l a.v
  have h0 := a.v.den_nz
  refine calls_to tok mix Tryz.func56 rfl rfl rfl ?_
  refine CallV.to _ (r3_normalize a (by omega)) rfl ?_
  refine CallV.to _ (r2_divmod (ofQ a.v).num (ofQ a.v).den (by omega) (by omega) (by rw [ofQ_den]; omega)) rfl ?_
  rw [ofQ_num, ofQ_den, ← Rat.floor_def]
  exact .refl

end Go.Gs
/- The other text's rationals: difference, comparison. -/
namespace Go.Gs
open Go.Proofs

theorem r2_cmp (a b : BI) (ha : a.mag.length ≤ 800000000) (hb : b.mag.length ≤ 800000000) : CallsG Tryz.prog 32 [.agg (biE a), .agg (biE b)] [] (i64 (a.v - b.v).sign) [] := by
  refine calls_to tok mix Tryz.func32 rfl rfl rfl ?_
  refine CallV.to _ (r2_sub a b ha hb) rfl ?_
  have h1 := zlen_sub a.v b.v
  have h2 := zlen_v a
  have h3 := zlen_v b
  refine CallV.to _ (r2_sign (ofZ (a.v - b.v)) (by rw [ofZ_len]; omega)) rfl ?_
  rw [ofZ_v]
  exact .refl

theorem r3_cmp (a b : BR) (ha : a.len ≤ 100000000) (hb : b.len ≤ 100000000) : CallsG Tryz.prog 13 [.agg (brE a), .agg (brE b)] [] (i64 (cmpQ a.v b.v)) [] := by
  have h1 := qlen_v a
  have h2 := qlen_v b
  have h3 := ofQ_l a.v
  have h4 := ofQ_l b.v
  have n1 := qlen_num a.v
  have n2 := qlen_num b.v
  have d1 := qlen_den a.v
  have d2 := qlen_den b.v
  have m1 := zlen_mul a.v.num b.v.den
  have m2 := zlen_mul b.v.num a.v.den
  refine calls_to tok mix Tryz.func13 rfl rfl rfl ?_
  refine Dr.mk (by decide +kernel) ?_
  refine CallV.to _ (r3_normalize a (by omega)) rfl ?_
  refine CallV.to _ (r3_normalize b (by omega)) rfl ?_
  refine Dr.mk (by decide +kernel) ?_
  refine CallV.to _ (r2_mul (ofQ a.v).num (ofQ b.v).den (by omega) (by omega)) rfl ?_
  refine CallV.to _ (r2_mul (ofQ b.v).num (ofQ a.v).den (by omega) (by omega)) rfl ?_
  rw [ofQ_num, ofQ_num, ofQ_den, ofQ_den]
  refine CallV.to _ (r2_cmp (ofZ (a.v.num * b.v.den)) (ofZ (b.v.num * a.v.den)) (by rw [ofZ_len]; omega) (by rw [ofZ_len]; omega)) rfl ?_
  rw [ofZ_v, ofZ_v]
  exact .refl

theorem ofQ_neg (x : Rat) : ofQ (-x) = ⟨ofZ (-x.num), ofZ x.den⟩ := by unfold ofQ; rw [Rat.neg_num, Rat.neg_den]
theorem r3_neg (a : BR) (ha : a.len ≤ 100000000) : CallsG Tryz.prog 14 [.agg (brE a)] [] (.agg (brE (ofQ (-a.v)))) [] := by
  have h1 := qlen_v a
  have h3 := ofQ_l a.v
  refine calls_to tok mix Tryz.func14 rfl rfl rfl ?_
  refine CallV.to _ (r3_normalize a (by omega)) rfl ?_
  refine Dr.mk (by decide +kernel) ?_
  refine CallV.to _ (r2_neg (ofQ a.v).num (by omega)) rfl ?_
  rw [ofQ_num, ofQ_neg]
  exact .refl

theorem r3_sub (a b : BR) (ha : a.len ≤ 40000000) (hb : b.len ≤ 40000000) : CallsG Tryz.prog 16 [.agg (brE a), .agg (brE b)] [] (.agg (brE (ofQ (a.v - b.v)))) [] := by
  have h2 := qlen_v b
  refine calls_to tok mix Tryz.func16 rfl rfl rfl ?_
  refine Dr.mk (by decide +kernel) ?_
  refine CallV.to _ (r3_neg b (by omega)) rfl ?_
  refine CallV.to _ (r3_add a (ofQ (-b.v)) (by omega) (by rw [ofQ_len, qlen_neg]; omega)) rfl ?_
  rw [ofQ_v, ← Rat.sub_eq_add_neg]
  exact .refl

end Go.Gs
