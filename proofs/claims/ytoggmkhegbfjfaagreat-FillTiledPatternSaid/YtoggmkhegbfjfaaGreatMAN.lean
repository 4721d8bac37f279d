/- Transforms, the program's: equality, determinant, composition, inverse. -/
import Derived.Test.YtoggmkhegbfjfaaGreatMAM
import Derived.Test.YtoggmkhegbfjfaaGreatMAJ
namespace Go.Gs
open Go.Proofs

theorem q_sub_le (x y : Rat) : qlen (x - y) ≤ qlen x + qlen y + 1 := qlen_sub x y
theorem q_quo_eq (x y : Rat) : Rat.divInt (x.num * y.den) (x.den * y.num) = x / y := by
  have := Rat.divInt_mul_divInt x.num (y.den : Int) (d₁ := x.den) (d₂ := y.num)
  rw [Rat.num_divInt_den, ← Rat.inv_def] at this
  exact this.symm

theorem q_quo (a b : BR) (ha : a.len ≤ 50000000) (hb : b.len ≤ 50000000) (h0 : b.v ≠ 0) : CallsG Tryz.prog 136 [.agg (brE a), .agg (brE b)] [] (.tup [.agg (brE (ofQ (a.v / b.v))), i64 0]) [] := by
  have h1 := qlen_v a
  have h2 := qlen_v b
  have h3 := ofQ_l a.v
  have h4 := ofQ_l b.v
  have n1 := qlen_num a.v
  have n2 := qlen_num b.v
  have d1 := qlen_den a.v
  have d2 := qlen_den b.v
  have m1 := zlen_mul a.v.num b.v.den
  have m3 := zlen_mul a.v.den b.v.num
  refine calls_to tok mix Tryz.func136 rfl rfl rfl ?_
  refine Dr.mk (by decide +kernel) ?_
  refine CallV.to _ (q_normalize a (by omega)) rfl ?_
  refine CallV.to _ (q_normalize b (by omega)) rfl ?_
  refine Dr.mk (by decide +kernel) ?_
  refine CallV.to _ (z_mul (ofQ a.v).num (ofQ b.v).den (by omega) (by omega)) rfl ?_
  refine CallV.to _ (z_mul (ofQ a.v).den (ofQ b.v).num (by omega) (by omega)) rfl ?_
  rw [ofQ_num, ofQ_num, ofQ_den, ofQ_den]
  refine CallV.to _ (q_new (ofZ (a.v.num * b.v.den)) (ofZ (a.v.den * b.v.num)) (by rw [ofZ_len]; omega) (by rw [ofZ_len]; omega) (by
    rw [ofZ_v]; exact Int.mul_ne_zero (den_ne _) (fun h => h0 (Rat.num_eq_zero.1 h)))) rfl ?_
  rw [ofZ_v, ofZ_v, q_quo_eq]
  exact .refl

theorem q_neg (a : BR) (ha : a.len ≤ 100000000) : CallsG Tryz.prog 137 [.agg (brE a)] [] (.agg (brE (ofQ (-a.v)))) [] := by
  have h1 := qlen_v a
  have h3 := ofQ_l a.v
  refine calls_to tok mix Tryz.func137 rfl rfl rfl ?_
  refine CallV.to _ (q_normalize a (by omega)) rfl ?_
  refine Dr.mk (by decide +kernel) ?_
  refine CallV.to _ (z_neg (ofQ a.v).num (by omega)) rfl ?_
  rw [ofQ_num, show ofQ (-a.v) = ⟨ofZ (-a.v.num), ofZ a.v.den⟩ by unfold ofQ; rw [Rat.neg_num, Rat.neg_den]]
  exact .refl

/-- The same numbers. -/
def AF.same (t u : AF) : Prop := t.a.v = u.a.v ∧ t.b.v = u.b.v ∧ t.c.v = u.c.v ∧ t.d.v = u.d.v ∧ t.e.v = u.e.v ∧ t.f.v = u.f.v
instance (t u : AF) : Decidable (t.same u) := inferInstanceAs (Decidable (_ ∧ _))
theorem cmpQ_zero {x y : Rat} : cmpQ x y = 0 ↔ x = y := by
  constructor
  · intro h
    exact Rat.le_antisymm (cmpQ_le.1 (by omega)) (cmpQ_ge.1 (by omega))
  · rintro rfl
    unfold cmpQ; rw [Int.sub_self]; rfl
theorem AF.le_len {t : AF} {n : Nat} (h : t.le n) : t.nrm.le (max n 1) := by
  obtain ⟨h1, h2, h3, h4, h5, h6⟩ := h
  have l1 := qlen_v t.a
  have l2 := qlen_v t.b
  have l3 := qlen_v t.c
  have l4 := qlen_v t.d
  have l5 := qlen_v t.e
  have l6 := qlen_v t.f
  refine ⟨?_, ?_, ?_, ?_, ?_, ?_⟩ <;> (show (ofQ _).len ≤ _; rw [ofQ_len]; omega)

def samesI (t u : AF) : Nat → Prop
  | 0 => True
  | k + 1 => samesI t u k ∧ (t.nth k).v = (u.nth k).v

set_option maxRecDepth 100000 in
set_option maxHeartbeats 4000000 in
theorem a_equal (t u : AF) (ht : t.le 10000000) (hu : u.le 10000000) : CallsG Tryz.prog 120 [.agg (afE t), .agg (afE u)] [] (pr (t.same u)) [] := by
  refine calls_to tok mix Tryz.func120 rfl rfl rfl ?_
  refine Dr.mk (by decide +kernel) ?_
  obtain ⟨ha, hb, hc, hd, he, hf⟩ := ht
  obtain ⟨ka, kb, kc, kd, ke, kf⟩ := hu
  refine CallV.to _ (a_numbers t ⟨by omega, by omega, by omega, by omega, by omega, by omega⟩) rfl ?_
  refine CallV.to _ (a_numbers u ⟨by omega, by omega, by omega, by omega, by omega, by omega⟩) rfl ?_
  refine ⟨Nat, fun i => ⟨[(14, i64 i), (13, .agg (afE t.nrm)), (6, .loc 3 0)], [(3, .box 189 (afE u.nrm))], 4, 25, 0⟩, fun i => i ≤ 6 ∧ samesI t u i, fun i => 6 - i, 0, ⟨Nat.zero_le _, trivial⟩, ?_, ?_⟩
  · exact sub_of [(3, some 3)] rfl rfl rfl ⟨rfl, rfl, rfl, trivial⟩ ⟨rfl, trivial⟩
  rintro i ⟨hi, ok⟩
  have hi : i = 0 ∨ i = 1 ∨ i = 2 ∨ i = 3 ∨ i = 4 ∨ i = 5 ∨ i = 6 := by omega
  have l1 := qlen_v t.a
  have l2 := qlen_v t.b
  have l3 := qlen_v t.c
  have l4 := qlen_v t.d
  have l5 := qlen_v t.e
  have l6 := qlen_v t.f
  have j1 := qlen_v u.a
  have j2 := qlen_v u.b
  have j3 := qlen_v u.c
  have j4 := qlen_v u.d
  have j5 := qlen_v u.e
  have j6 := qlen_v u.f
  rcases hi with rfl | rfl | rfl | rfl | rfl | rfl | rfl
  · refine Br.mk (fun _ => ?_) (fun h => absurd (by decide) h)
    refine Dr.mk (by decide +kernel) ?_
    refine CallV.to _ (q_cmp (ofQ t.a.v) (ofQ u.a.v) (by rw [ofQ_len]; omega) (by rw [ofQ_len]; omega)) rfl ?_
    rw [ofQ_v, ofQ_v]
    refine Br.mk (fun h => LE_false (fun h1 => h (cmpQ_zero.2 h1.1))) (fun h => ?_)
    have h := cmpQ_zero.1 (Decidable.not_not.1 h)
    refine Ar.fit (by decide) ?_
    exact ⟨1, ⟨(by show 1 ≤ 6; decide), ok, h⟩, sub_of [(3, some 3)] rfl rfl rfl ⟨rfl, rfl, rfl, trivial⟩ ⟨rfl, trivial⟩, by decide⟩
  · refine Br.mk (fun _ => ?_) (fun h => absurd (by decide) h)
    refine Dr.mk (by decide +kernel) ?_
    refine CallV.to _ (q_cmp (ofQ t.b.v) (ofQ u.b.v) (by rw [ofQ_len]; omega) (by rw [ofQ_len]; omega)) rfl ?_
    rw [ofQ_v, ofQ_v]
    refine Br.mk (fun h => LE_false (fun h1 => h (cmpQ_zero.2 h1.2.1))) (fun h => ?_)
    have h := cmpQ_zero.1 (Decidable.not_not.1 h)
    refine Ar.fit (by decide) ?_
    exact ⟨2, ⟨(by show 2 ≤ 6; decide), ok, h⟩, sub_of [(3, some 3)] rfl rfl rfl ⟨rfl, rfl, rfl, trivial⟩ ⟨rfl, trivial⟩, by decide⟩
  · refine Br.mk (fun _ => ?_) (fun h => absurd (by decide) h)
    refine Dr.mk (by decide +kernel) ?_
    refine CallV.to _ (q_cmp (ofQ t.c.v) (ofQ u.c.v) (by rw [ofQ_len]; omega) (by rw [ofQ_len]; omega)) rfl ?_
    rw [ofQ_v, ofQ_v]
    refine Br.mk (fun h => LE_false (fun h1 => h (cmpQ_zero.2 h1.2.2.1))) (fun h => ?_)
    have h := cmpQ_zero.1 (Decidable.not_not.1 h)
    refine Ar.fit (by decide) ?_
    exact ⟨3, ⟨(by show 3 ≤ 6; decide), ok, h⟩, sub_of [(3, some 3)] rfl rfl rfl ⟨rfl, rfl, rfl, trivial⟩ ⟨rfl, trivial⟩, by decide⟩
  · refine Br.mk (fun _ => ?_) (fun h => absurd (by decide) h)
    refine Dr.mk (by decide +kernel) ?_
    refine CallV.to _ (q_cmp (ofQ t.d.v) (ofQ u.d.v) (by rw [ofQ_len]; omega) (by rw [ofQ_len]; omega)) rfl ?_
    rw [ofQ_v, ofQ_v]
    refine Br.mk (fun h => LE_false (fun h1 => h (cmpQ_zero.2 h1.2.2.2.1))) (fun h => ?_)
    have h := cmpQ_zero.1 (Decidable.not_not.1 h)
    refine Ar.fit (by decide) ?_
    exact ⟨4, ⟨(by show 4 ≤ 6; decide), ok, h⟩, sub_of [(3, some 3)] rfl rfl rfl ⟨rfl, rfl, rfl, trivial⟩ ⟨rfl, trivial⟩, by decide⟩
  · refine Br.mk (fun _ => ?_) (fun h => absurd (by decide) h)
    refine Dr.mk (by decide +kernel) ?_
    refine CallV.to _ (q_cmp (ofQ t.e.v) (ofQ u.e.v) (by rw [ofQ_len]; omega) (by rw [ofQ_len]; omega)) rfl ?_
    rw [ofQ_v, ofQ_v]
    refine Br.mk (fun h => LE_false (fun h1 => h (cmpQ_zero.2 h1.2.2.2.2.1))) (fun h => ?_)
    have h := cmpQ_zero.1 (Decidable.not_not.1 h)
    refine Ar.fit (by decide) ?_
    exact ⟨5, ⟨(by show 5 ≤ 6; decide), ok, h⟩, sub_of [(3, some 3)] rfl rfl rfl ⟨rfl, rfl, rfl, trivial⟩ ⟨rfl, trivial⟩, by decide⟩
  · refine Br.mk (fun _ => ?_) (fun h => absurd (by decide) h)
    refine Dr.mk (by decide +kernel) ?_
    refine CallV.to _ (q_cmp (ofQ t.f.v) (ofQ u.f.v) (by rw [ofQ_len]; omega) (by rw [ofQ_len]; omega)) rfl ?_
    rw [ofQ_v, ofQ_v]
    refine Br.mk (fun h => LE_false (fun h1 => h (cmpQ_zero.2 h1.2.2.2.2.2))) (fun h => ?_)
    have h := cmpQ_zero.1 (Decidable.not_not.1 h)
    refine Ar.fit (by decide) ?_
    exact ⟨6, ⟨(by show 6 ≤ 6; decide), ok, h⟩, sub_of [(3, some 3)] rfl rfl rfl ⟨rfl, rfl, rfl, trivial⟩ ⟨rfl, trivial⟩, by decide⟩
  · refine Br.mk (fun h => absurd h (by decide)) (fun _ => ?_)
    obtain ⟨⟨⟨⟨⟨⟨_, o1⟩, o2⟩, o3⟩, o4⟩, o5⟩, o6⟩ := ok
    exact LE_true ⟨o1, o2, o3, o4, o5, o6⟩

theorem qlen_bits {q : Rat} (h : qbits q ≤ 256) : qlen q ≤ 8 := by
  have key : ∀ n : Nat, nbits n ≤ 256 → (digs n).length ≤ 8 := fun n hn => digs_len (by
    have := nbits_lt n
    have h2 : 2 ^ nbits n ≤ 2 ^ 256 := Nat.pow_le_pow_right (by decide) hn
    have h3 : (4294967296 : Nat) ^ 8 = 2 ^ 256 := by decide
    rw [h3]; omega)
  unfold qbits at h
  unfold qlen zlen
  have h1 := key q.num.natAbs (by omega)
  have h2 := key q.den (by omega)
  rw [Int.natAbs_natCast]
  omega
theorem ok_le {t : AF} (h : t.nrm.ok) : t.nrm.le 8 := by
  obtain ⟨⟨⟨⟨⟨⟨_, o1⟩, o2⟩, o3⟩, o4⟩, o5⟩, o6⟩ := h
  simp only [AF.nth, AF.nrm, ofQ_v] at o1 o2 o3 o4 o5 o6
  exact ⟨by show (ofQ _).len ≤ _; rw [ofQ_len]; exact qlen_bits o1, by show (ofQ _).len ≤ _; rw [ofQ_len]; exact qlen_bits o2, by show (ofQ _).len ≤ _; rw [ofQ_len]; exact qlen_bits o3,
    by show (ofQ _).len ≤ _; rw [ofQ_len]; exact qlen_bits o4, by show (ofQ _).len ≤ _; rw [ofQ_len]; exact qlen_bits o5, by show (ofQ _).len ≤ _; rw [ofQ_len]; exact qlen_bits o6⟩

def detQ (t : AF) : Rat := t.a.v * t.d.v - t.b.v * t.c.v
theorem a_det (t : AF) (ht : t.le 10000000) : CallsG Tryz.prog 125 [.agg (afE t)] [] (.agg (brE (ofQ (detQ t)))) [] := by
  obtain ⟨ha, hb, hc, hd, he, hf⟩ := ht
  have l1 := qlen_v t.a
  have l2 := qlen_v t.b
  have l3 := qlen_v t.c
  have l4 := qlen_v t.d
  have m1 := qlen_mul t.a.v t.d.v
  have m2 := qlen_mul t.b.v t.c.v
  refine calls_to tok mix Tryz.func125 rfl rfl rfl ?_
  refine Dr.mk (by decide +kernel) ?_
  refine CallV.to _ (q_mul t.a t.d (by omega) (by omega)) rfl ?_
  refine CallV.to _ (q_mul t.b t.c (by omega) (by omega)) rfl ?_
  refine CallV.to _ (q_sub (ofQ (t.a.v * t.d.v)) (ofQ (t.b.v * t.c.v)) (by rw [ofQ_len]; omega) (by rw [ofQ_len]; omega)) rfl ?_
  rw [ofQ_v, ofQ_v]
  exact .refl

theorem a_normalize (t : AF) (ht : t.le 100000000) : CallsG Tryz.prog 134 [.agg (afE t)] [] (.agg (afE t.nrm)) [] := by
  obtain ⟨ha, hb, hc, hd, he, hf⟩ := ht
  refine calls_to tok mix Tryz.func134 rfl rfl rfl ?_
  refine CallV.to _ (a_numbers t ⟨by omega, by omega, by omega, by omega, by omega, by omega⟩) rfl ?_
  refine CallV.to _ (a_made t.nrm) rfl ?_
  exact .refl

/-- First 't', then 'u'. -/
def beh (t u : AF) : AF := afQ (u.a.v * t.a.v + u.c.v * t.b.v) (u.b.v * t.a.v + u.d.v * t.b.v) (u.a.v * t.c.v + u.c.v * t.d.v) (u.b.v * t.c.v + u.d.v * t.d.v) (applX u t.e.v t.f.v) (applY u t.e.v t.f.v)
set_option maxRecDepth 100000 in
set_option maxHeartbeats 4000000 in
theorem a_behind (t u : AF) (ht : t.le 1000000) (hu : u.le 1000000) : CallsG Tryz.prog 133 [.agg (afE t), .agg (afE u)] [] (.agg (afE (beh t u))) [] := by
  have ht' := ht
  have hu' := hu
  obtain ⟨ha, hb, hc, hd, he, hf⟩ := ht
  obtain ⟨ka, kb, kc, kd, ke, kf⟩ := hu
  refine calls_to tok mix Tryz.func133 rfl rfl rfl ?_
  refine CallV.to _ (a_exact u t.e t.f ⟨by omega, by omega, by omega, by omega, by omega, by omega⟩ (by omega) (by omega)) rfl ?_
  refine Dr.mk (by decide +kernel) ?_
  refine CallV.to _ (a_twos u.a t.a u.c t.b (by omega) (by omega) (by omega) (by omega)) rfl ?_
  refine CallV.to _ (a_twos u.b t.a u.d t.b (by omega) (by omega) (by omega) (by omega)) rfl ?_
  refine CallV.to _ (a_twos u.a t.c u.c t.d (by omega) (by omega) (by omega) (by omega)) rfl ?_
  refine CallV.to _ (a_twos u.b t.c u.d t.d (by omega) (by omega) (by omega) (by omega)) rfl ?_
  refine CallV.to _ (a_made (beh t u)) rfl ?_
  exact .refl
theorem beh_le {t u : AF} {n : Nat} (ht : t.le n) (hu : u.le n) : (beh t u).le (5 * n + 7) := by
  obtain ⟨ha, hb, hc, hd, he, hf⟩ := ht
  obtain ⟨ka, kb, kc, kd, ke, kf⟩ := hu
  have m1 := qlen_twos u.a t.a u.c t.b u.e ka ha kc hb ke
  have m2 := qlen_twos u.b t.a u.d t.b u.e kb ha kd hb ke
  have m3 := qlen_twos u.a t.c u.c t.d u.e ka hc kc hd ke
  have m4 := qlen_twos u.b t.c u.d t.d u.e kb hc kd hd ke
  have m5 := qlen_twos u.a t.e u.c t.f u.e ka he kc hf ke
  have m6 := qlen_twos u.b t.e u.d t.f u.f kb he kd hf kf
  refine ⟨?_, ?_, ?_, ?_, ?_, ?_⟩ <;> (show (ofQ _).len ≤ _; rw [ofQ_len])
  · omega
  · omega
  · omega
  · omega
  · exact m5.2
  · exact m6.2

end Go.Gs
/- The other text's natural numbers and integers: what rationals need. -/
namespace Go.Gs
open Go.Proofs

set_option maxRecDepth 100000 in
theorem r1_gcd (a b : List Dig) (ha : a.length ≤ 400000000) (hb : b.length ≤ 400000000) :
    CallsG Tryz.prog 225 [.sl dgE a, .sl dgE b] [] (.sl dgE (digs (Nat.gcd (val a) (val b)))) [] := by
  refine calls_to tok mix Tryz.func225 rfl rfl rfl ?_
  refine CallV.to _ (r1_normalizeP _ (by omega)) rfl ?_
  refine CallV.to _ (r1_normalizeP _ (by omega)) rfl ?_
  have hla := digs_val_len a
  have hlb := digs_val_len b
  refine ⟨Nat × Nat, fun ⟨A, B⟩ => ⟨[(5, .sl dgE (digs A)), (6, .sl dgE (digs B))], [], 0, 27, 0⟩,
    fun x => (digs x.1).length ≤ 400000000 ∧ (digs x.2).length ≤ 400000000 ∧ Nat.gcd x.1 x.2 = Nat.gcd (val a) (val b), fun x => x.2, (val a, val b), ?_, ?_, ?_⟩
  · exact ⟨by dsimp only; omega, by dsimp only; omega, rfl⟩
  · exact sub_of [] rfl rfl rfl ⟨rfl, rfl, trivial⟩ trivial
  rintro ⟨A, B⟩ ⟨h1, h2, h3⟩
  dsimp only at h1 h2 h3
  intro hl
  refine Br.mk (fun k => ?_) (fun k => ?_)
  · have hB : B ≠ 0 := digs_len_pos.1 (by omega)
    refine CallV.to _ (r1_divmod (digs A) (digs B) (by omega) (by omega) (by rw [val_digs]; exact hB)) rfl ?_
    rw [val_digs, val_digs]
    have hm := Nat.mod_lt A (Nat.pos_of_ne_zero hB)
    refine ⟨(B, A % B), ⟨h2, Nat.le_trans (digs_mono (Nat.le_of_lt hm)) h2, ?_⟩, sub_of [] rfl rfl rfl ⟨rfl, rfl, trivial⟩ trivial, hm⟩
    dsimp only
    rw [← h3, Nat.gcd_comm B, Nat.gcd_comm A B, Nat.gcd_rec B A]
  · have hB : B = 0 := digs_nil.1 (List.length_eq_zero_iff.1 (by omega))
    subst hB
    rw [Nat.gcd_zero_right] at h3
    exact LE_sl (by rw [h3])

theorem r2_newF (m : List Dig) (hm : m.length ≤ 1000000000) : CallsG Tryz.prog 104 [bl false, .sl dgE m] [] (.agg (biE (ofZ (val m)))) [] := by
  have := (r2_new False m hm).args (.cons (LE_false id) (.cons .refl .nil))
  rwa [if_neg id] at this
theorem r2_neg (a : BI) (hm : a.mag.length ≤ 1000000000) : CallsG Tryz.prog 226 [.agg (biE a)] [] (.agg (biE (ofZ (-a.v)))) [] := by
  refine calls_to tok mix Tryz.func226 rfl rfl rfl ?_
  refine CallV.to _ (r2_new (¬ a.neg = true) a.mag hm) rfl ?_
  have : (if ¬ a.neg = true then -(val a.mag : Int) else (val a.mag : Int)) = -a.v := by
    rcases a.v_eq with ⟨h1, h2⟩ | ⟨h1, h2⟩ <;> simp [h1, h2]
  rw [this]
  exact .refl

theorem r2_add (a b : BI) (ha : a.mag.length ≤ 800000000) (hb : b.mag.length ≤ 800000000) : CallsG Tryz.prog 259 [.agg (biE a), .agg (biE b)] [] (.agg (biE (ofZ (a.v + b.v)))) [] := by
  refine calls_to tok mix Tryz.func259 rfl rfl rfl ?_
  refine Br.mk (fun h => ?_) (fun h => ?_)
  · refine Dr.mk (by decide +kernel) ?_
    refine CallV.to _ (r1_addP a.mag b.mag (by omega) (by omega)) rfl ?_
    have hl := dadd_len ha hb
    refine CallV.to _ (r2_new (a.neg = true) _ (by omega)) rfl ?_
    have : (if a.neg = true then -(val (digs (val a.mag + val b.mag)) : Int) else (val (digs (val a.mag + val b.mag)) : Int)) = a.v + b.v := by
      rw [val_digs]
      rcases a.v_eq with ⟨h1, h2⟩ | ⟨h1, h2⟩ <;> rcases b.v_eq with ⟨h3, h4⟩ | ⟨h3, h4⟩ <;> simp [h1, h3] at h <;> simp [h1, h2, h4] <;> omega
    rw [this]
    exact .refl
  · refine CallV.to _ (r1_subP a.mag b.mag (by omega) (by omega)) rfl ?_
    have hl : (digs (val a.mag - val b.mag)).length ≤ 1000000000 := Nat.le_trans (digs_mono (Nat.sub_le _ _)) (Nat.le_trans (digs_val_len _) (by omega))
    have hl2 : (digs (val b.mag - val a.mag)).length ≤ 1000000000 := Nat.le_trans (digs_mono (Nat.sub_le _ _)) (Nat.le_trans (digs_val_len _) (by omega))
    refine Br.mk (fun h2 => ?_) (fun h2 => ?_)
    · refine CallV.to _ (r2_new (a.neg = true) _ hl) rfl ?_
      have : (if a.neg = true then -(val (digs (val a.mag - val b.mag)) : Int) else (val (digs (val a.mag - val b.mag)) : Int)) = a.v + b.v := by
        rw [val_digs]
        rcases a.v_eq with ⟨h1, h2⟩ | ⟨h1, h2⟩ <;> rcases b.v_eq with ⟨h3, h4⟩ | ⟨h3, h4⟩ <;> simp [h1, h3] at h <;> simp [h1, h2, h4] <;> omega
      rw [this]
      exact .refl
    · refine CallV.to _ (r1_subP b.mag a.mag (by omega) (by omega)) rfl ?_
      refine CallV.to _ (r2_new (b.neg = true) _ hl2) rfl ?_
      have : (if b.neg = true then -(val (digs (val b.mag - val a.mag)) : Int) else (val (digs (val b.mag - val a.mag)) : Int)) = a.v + b.v := by
        rw [val_digs]
        rcases a.v_eq with ⟨h1, h2⟩ | ⟨h1, h2⟩ <;> rcases b.v_eq with ⟨h3, h4⟩ | ⟨h3, h4⟩ <;> simp [h1, h3] at h <;> simp [h3, h2, h4] <;> omega
      rw [this]
      exact .refl
theorem r2_sub (a b : BI) (ha : a.mag.length ≤ 800000000) (hb : b.mag.length ≤ 800000000) : CallsG Tryz.prog 274 [.agg (biE a), .agg (biE b)] [] (.agg (biE (ofZ (a.v - b.v)))) [] := by
  refine calls_to tok mix Tryz.func274 rfl rfl rfl ?_
  refine Dr.mk (by decide +kernel) ?_
  refine CallV.to _ (r2_neg b (by omega)) rfl ?_
  have h1 := zlen_v b
  refine CallV.to _ (r2_add a (ofZ (-b.v)) (by omega) (by rw [ofZ_len, zlen_neg]; omega)) rfl ?_
  rw [ofZ_v, ← Int.sub_eq_add_neg]
  exact .refl
theorem r2_bitlen (a : BI) (ha : a.mag.length ≤ 900000000) : CallsG Tryz.prog 297 [.agg (biE a)] [] (i64 (nbits a.v.natAbs)) [] := by
  refine calls_to tok mix Tryz.func297 rfl rfl rfl ?_
  refine CallV.to _ (r1_bitlen a.mag ha) rfl ?_
  rw [BI.v_abs]
  exact .refl

theorem negdiv {A B : Nat} (hB : 0 < B) : (A % B = 0 → -(A : Int) / B = -((A / B : Nat) : Int) ∧ -(A : Int) % B = -((A % B : Nat) : Int)) ∧ (A % B ≠ 0 → -(A : Int) / B = -((A / B : Nat) : Int) - 1 ∧ -(A : Int) % B = -((A % B : Nat) : Int) + B) := by
  have hdm := Nat.div_add_mod A B
  have hm := Nat.mod_lt A hB
  generalize A / B = q at *
  generalize A % B = r at *
  have e : (B : Int) * (q : Int) = ((B * q : Nat) : Int) := (Int.natCast_mul _ _).symm
  have hB' : (0 : Int) < B := by omega
  refine ⟨fun h => (Int.ediv_emod_unique hB').2 ⟨?_, by omega, by omega⟩, fun h => (Int.ediv_emod_unique hB').2 ⟨?_, by omega, by omega⟩⟩
  · rw [Int.mul_neg, e]; omega
  · rw [Int.mul_sub, Int.mul_neg, e, Int.mul_one]; omega

theorem r2_divmod (a b : BI) (ha : a.mag.length ≤ 200000000) (hb : b.mag.length ≤ 200000000) (h0 : 0 < b.v) :
    CallsG Tryz.prog 227 [.agg (biE a), .agg (biE b)] [] (.tup [.agg (biE (ofZ (a.v / b.v))), .agg (biE (ofZ (a.v % b.v))), i64 0]) [] := by
  have hbv : b.neg = false ∧ b.v = (val b.mag : Int) := by
    rcases b.v_eq with ⟨h1, h2⟩ | h
    · omega
    · exact h
  have hB : 0 < val b.mag := by omega
  have q1 : (digs (val a.mag / val b.mag)).length ≤ 200000000 := Nat.le_trans (digs_mono (Nat.div_le_self _ _)) (Nat.le_trans (digs_val_len _) ha)
  have r1 : (digs (val a.mag % val b.mag)).length ≤ 200000000 := Nat.le_trans (digs_mono (Nat.mod_le _ _)) (Nat.le_trans (digs_val_len _) ha)
  have nb : ¬ b.neg = true := by rw [hbv.1]; decide
  refine calls_to tok mix Tryz.func227 rfl rfl rfl ?_
  refine CallV.to _ (r2_sign b (by omega)) rfl ?_
  refine Br.mk (fun h => absurd (Int.sign_eq_zero_iff_zero.1 h) (by omega)) (fun _ => ?_)
  refine CallV.to _ (r1_divmod a.mag b.mag (by omega) (by omega) (by omega)) rfl ?_
  refine CallV.to _ (r2_new (¬ (a.neg = true ↔ b.neg = true)) _ (by omega)) rfl ?_
  refine CallV.to _ (r2_new (a.neg = true) _ (by omega)) rfl ?_
  rw [val_digs, val_digs]
  rcases a.v_eq with ⟨h1, h2⟩ | ⟨h1, h2⟩
  · have pa : ¬ (a.neg = true ↔ b.neg = true) := by rw [h1, hbv.1]; decide
    rw [if_pos pa, if_pos h1]
    refine Br.mk (fun h3 => ?_) (fun h3 => absurd pa h3)
    have nd := negdiv (A := val a.mag) hB
    rw [← h2, ← hbv.2] at nd
    have k1 : zlen (-((val a.mag / val b.mag : Nat) : Int)) ≤ 200000000 := by rw [zlen_neg]; exact q1
    have k2 : zlen (-((val a.mag % val b.mag : Nat) : Int)) ≤ 200000000 := by rw [zlen_neg]; exact r1
    refine CallV.to _ (r2_sign (ofZ (-((val a.mag % val b.mag : Nat) : Int))) (by rw [ofZ_len]; omega)) rfl ?_
    rw [ofZ_v]
    refine Br.mk (fun h4 => ?_) (fun h4 => ?_)
    · have hr : val a.mag % val b.mag ≠ 0 := fun h => h4 (by rw [h]; rfl)
      refine Dr.mk (by decide +kernel) ?_
      refine CallV.to _ (r2_fromint 1 (by decide)) rfl ?_
      refine CallV.to _ (r2_sub (ofZ (-((val a.mag / val b.mag : Nat) : Int))) (ofZ 1) (by rw [ofZ_len]; omega) (by decide +kernel)) rfl ?_
      refine CallV.to _ (r2_add (ofZ (-((val a.mag % val b.mag : Nat) : Int))) b (by rw [ofZ_len]; omega) (by omega)) rfl ?_
      rw [ofZ_v, ofZ_v, ofZ_v, (nd.2 hr).1, (nd.2 hr).2]
      exact .refl
    · have hr : val a.mag % val b.mag = 0 := by
        have : (-((val a.mag % val b.mag : Nat) : Int)) = 0 := Int.sign_eq_zero_iff_zero.1 (Decidable.not_not.1 h4)
        omega
      refine Dr.dyn (Ob.mk (by decide +kernel) ?_)
      refine Ob.mk (by kernel_rfl) ?_
      rw [← (nd.1 hr).1, ← (nd.1 hr).2]
      exact .refl
  · have pa : ¬ ¬ (a.neg = true ↔ b.neg = true) := by rw [h1, hbv.1]; decide
    have na : ¬ a.neg = true := by rw [h1]; decide
    rw [if_neg pa, if_neg na]
    refine Br.mk (fun h3 => absurd h3 pa) (fun h3 => ?_)
    refine Dr.dyn (Ob.mk (by decide +kernel) ?_)
    refine Ob.mk (by kernel_rfl) ?_
    rw [h2, hbv.2, ← Int.natCast_ediv, ← Int.natCast_emod]
    exact .refl

end Go.Gs
/- The other text's rationals. -/
namespace Go.Gs
open Go.Proofs

theorem r3_fromInt (n : Int) (hn : R64 n) : CallsG Tryz.prog 34 [i64 n] [] (.agg (brE (ofQ (n : Rat)))) [] := by
  refine calls_to tok mix Tryz.func34 rfl rfl rfl ?_
  refine CallV.to _ (r2_fromint n hn) rfl ?_
  refine CallV.to _ (r2_fromint 1 (by decide)) rfl ?_
  have e : ofQ (n : Rat) = ⟨ofZ n, ofZ 1⟩ := by unfold ofQ; rw [Rat.num_intCast, Rat.den_intCast]; rfl
  rw [e]
  exact .refl

theorem natAbs_quo {n : Int} {g : Nat} : zlen (n / (g : Int)) ≤ zlen n := zlen_mono (Int.natAbs_ediv_le_natAbs _ _)
set_option maxRecDepth 100000 in
set_option maxHeartbeats 1000000 in
theorem r3_reduce (n d : BI) (hn : n.mag.length ≤ 200000000) (hd : d.mag.length ≤ 200000000) (h0 : d.v ≠ 0) :
    CallsG Tryz.prog 159 [.agg (biE n), .agg (biE d)] [] (.agg (brE (ofQ (Rat.divInt n.v d.v)))) [] := by
  refine calls_to tok mix Tryz.func159 rfl rfl rfl ?_
  refine CallV.to _ (r1_gcd n.mag d.mag (by omega) (by omega)) rfl ?_
  have hdz : val d.mag ≠ 0 := by rw [← d.v_abs]; omega
  have hg0 : 0 < Nat.gcd (val n.mag) (val d.mag) := Nat.gcd_pos_of_pos_right _ (by omega)
  have hgl : (digs (Nat.gcd (val n.mag) (val d.mag))).length ≤ 200000000 :=
    Nat.le_trans (digs_mono (Nat.gcd_le_right _ (by omega))) (Nat.le_trans (digs_val_len _) hd)
  have hnum := Rat.num_divInt n.v d.v
  have hden := Rat.den_divInt n.v d.v
  have hg : d.v.gcd n.v = Nat.gcd (val n.mag) (val d.mag) := by
    rw [← n.v_abs, ← d.v_abs]; exact Nat.gcd_comm _ _
  rw [hg] at hnum hden
  rw [if_neg h0] at hden
  have ln := zlen_v n
  have ld := zlen_v d
  generalize Nat.gcd (val n.mag) (val d.mag) = g at *
  refine CallV.to _ (r2_newF (digs g) (by omega)) rfl ?_
  rw [val_digs]
  have zg : zlen (g : Int) ≤ 200000000 := hgl
  have fin : ∀ N D : Int, N = d.v.sign * n.v → D = (d.v.natAbs : Int) → ofQ (Rat.divInt n.v d.v) = ⟨ofZ (N / (g : Int)), ofZ (D / (g : Int))⟩ := fun N D hN hD => by
    unfold ofQ; rw [hnum, hden, hN, hD]; rfl
  refine CallV.to _ (r2_sign d (by omega)) rfl ?_
  refine Br.mk (fun h => ?_) (fun h => ?_)
  · have hneg : d.v < 0 := by
      rcases Int.lt_trichotomy d.v 0 with k | k | k
      · exact k
      · exact absurd k h0
      · rw [Int.sign_eq_one_of_pos k] at h; omega
    refine CallV.to _ (r2_neg n (by omega)) rfl ?_
    refine CallV.to _ (r2_neg d (by omega)) rfl ?_
    refine CallV.to _ (r2_divmod (ofZ (-n.v)) (ofZ (g : Int)) (by rw [ofZ_len, zlen_neg]; omega) (by rw [ofZ_len]; omega) (by rw [ofZ_v]; omega)) rfl ?_
    refine CallV.to _ (r2_divmod (ofZ (-d.v)) (ofZ (g : Int)) (by rw [ofZ_len, zlen_neg]; omega) (by rw [ofZ_len]; omega) (by rw [ofZ_v]; omega)) rfl ?_
    rw [ofZ_v, ofZ_v, ofZ_v, fin (-n.v) (-d.v) (by rw [Int.sign_eq_neg_one_of_neg hneg]; omega) (by omega)]
    exact .refl
  · have hpos : 0 < d.v := by
      rcases Int.lt_trichotomy d.v 0 with k | k | k
      · rw [Int.sign_eq_neg_one_of_neg k] at h; omega
      · exact absurd k h0
      · exact k
    refine CallV.to _ (r2_divmod n (ofZ (g : Int)) (by omega) (by rw [ofZ_len]; omega) (by rw [ofZ_v]; omega)) rfl ?_
    refine CallV.to _ (r2_divmod d (ofZ (g : Int)) (by omega) (by rw [ofZ_len]; omega) (by rw [ofZ_v]; omega)) rfl ?_
    rw [ofZ_v, fin n.v d.v (by rw [Int.sign_eq_one_of_pos hpos]; omega) (by omega)]
    exact .refl

theorem r3_new (n d : BI) (hn : n.mag.length ≤ 200000000) (hd : d.mag.length ≤ 200000000) (h0 : d.v ≠ 0) :
    CallsG Tryz.prog 218 [.agg (biE n), .agg (biE d)] [] (.tup [.agg (brE (ofQ (Rat.divInt n.v d.v))), i64 0]) [] := by
  refine calls_to tok mix Tryz.func218 rfl rfl rfl ?_
  refine CallV.to _ (r2_sign d (by omega)) rfl ?_
  refine Br.mk (fun h => absurd (Int.sign_eq_zero_iff_zero.1 h) h0) (fun _ => ?_)
  refine CallV.to _ (r3_reduce n d hn hd h0) rfl ?_
  exact LE_tup2 .refl .refl

theorem r3_fromints (n d : Int) (hn : R64 n) (hd : R64 d) (h0 : d ≠ 0) : CallsG Tryz.prog 272 [i64 n, i64 d] [] (.tup [.agg (brE (ofQ (Rat.divInt n d))), i64 0]) [] := by
  refine calls_to tok mix Tryz.func272 rfl rfl rfl ?_
  have l1 := zlen_i64 hn
  have l2 := zlen_i64 hd
  refine CallV.to _ (r2_fromint n hn) rfl ?_
  refine CallV.to _ (r2_fromint d hd) rfl ?_
  refine CallV.to _ (r3_new (ofZ n) (ofZ d) (by rw [ofZ_len]; omega) (by rw [ofZ_len]; omega) (by rw [ofZ_v]; exact h0)) rfl ?_
  rw [ofZ_v, ofZ_v]
  exact LE_tup2 .refl .refl

theorem r3_normalize (a : BR) (ha : a.len ≤ 200000000) : CallsG Tryz.prog 103 [.agg (brE a)] [] (.agg (brE (ofQ a.v))) [] := by
  have h1 : a.num.mag.length ≤ a.len := Nat.le_max_left _ _
  have h2 : a.den.mag.length ≤ a.len := Nat.le_max_right _ _
  refine calls_to tok mix Tryz.func103 rfl rfl rfl ?_
  refine CallV.to _ (r2_sign a.den (by omega)) rfl ?_
  refine Br.mk (fun h => ?_) (fun h => ?_)
  · refine CallV.to _ (r3_fromInt 0 (by decide)) rfl ?_
    have e : a.v = ((0 : Int) : Rat) := by unfold BR.v; rw [Int.sign_eq_zero_iff_zero.1 h, Rat.divInt_zero]; rfl
    rw [e]
    exact .refl
  · refine CallV.to _ (r3_reduce a.num a.den (by omega) (by omega) (fun k => h (by rw [k]; rfl))) rfl ?_
    exact .refl

theorem r3_add (a b : BR) (ha : a.len ≤ 50000000) (hb : b.len ≤ 50000000) : CallsG Tryz.prog 207 [.agg (brE a), .agg (brE b)] [] (.agg (brE (ofQ (a.v + b.v)))) [] := by
  have h1 := qlen_v a
  have h2 := qlen_v b
  have h3 := ofQ_l a.v
  have h4 := ofQ_l b.v
  have n1 := qlen_num a.v
  have n2 := qlen_num b.v
  have d1 := qlen_den a.v
  have d2 := qlen_den b.v
  have m1 := zlen_mul a.v.num b.v.den
  have m2 := zlen_mul b.v.num a.v.den
  have m3 := zlen_mul a.v.den b.v.den
  have m4 := zlen_add (a.v.num * b.v.den) (b.v.num * a.v.den)
  refine calls_to tok mix Tryz.func207 rfl rfl rfl ?_
  refine Dr.mk (by decide +kernel) ?_
  refine CallV.to _ (r3_normalize a (by omega)) rfl ?_
  refine CallV.to _ (r3_normalize b (by omega)) rfl ?_
  refine Dr.mk (by decide +kernel) ?_
  refine CallV.to _ (r2_mul (ofQ a.v).num (ofQ b.v).den (by omega) (by omega)) rfl ?_
  refine CallV.to _ (r2_mul (ofQ b.v).num (ofQ a.v).den (by omega) (by omega)) rfl ?_
  rw [ofQ_num, ofQ_num, ofQ_den, ofQ_den]
  refine CallV.to _ (r2_add (ofZ (a.v.num * b.v.den)) (ofZ (b.v.num * a.v.den)) (by rw [ofZ_len]; omega) (by rw [ofZ_len]; omega)) rfl ?_
  rw [ofZ_v, ofZ_v]
  refine CallV.to _ (r2_mul (ofQ a.v).den (ofQ b.v).den (by omega) (by omega)) rfl ?_
  rw [ofQ_den, ofQ_den]
  refine CallV.to _ (r3_reduce (ofZ (a.v.num * b.v.den + b.v.num * a.v.den)) (ofZ (a.v.den * b.v.den)) (by rw [ofZ_len]; omega) (by rw [ofZ_len]; omega) (by rw [ofZ_v]; exact den_mul_ne _ _)) rfl ?_
  rw [ofZ_v, ofZ_v, q_add_eq]
  exact .refl

theorem r3_mul (a b : BR) (ha : a.len ≤ 50000000) (hb : b.len ≤ 50000000) : CallsG Tryz.prog 214 [.agg (brE a), .agg (brE b)] [] (.agg (brE (ofQ (a.v * b.v)))) [] := by
  have h1 := qlen_v a
  have h2 := qlen_v b
  have h3 := ofQ_l a.v
  have h4 := ofQ_l b.v
  have n1 := qlen_num a.v
  have n2 := qlen_num b.v
  have d1 := qlen_den a.v
  have d2 := qlen_den b.v
  have m1 := zlen_mul a.v.num b.v.num
  have m3 := zlen_mul a.v.den b.v.den
  refine calls_to tok mix Tryz.func214 rfl rfl rfl ?_
  refine Dr.mk (by decide +kernel) ?_
  refine CallV.to _ (r3_normalize a (by omega)) rfl ?_
  refine CallV.to _ (r3_normalize b (by omega)) rfl ?_
  refine Dr.mk (by decide +kernel) ?_
  refine CallV.to _ (r2_mul (ofQ a.v).num (ofQ b.v).num (by omega) (by omega)) rfl ?_
  refine CallV.to _ (r2_mul (ofQ a.v).den (ofQ b.v).den (by omega) (by omega)) rfl ?_
  rw [ofQ_num, ofQ_num, ofQ_den, ofQ_den]
  refine CallV.to _ (r3_reduce (ofZ (a.v.num * b.v.num)) (ofZ (a.v.den * b.v.den)) (by rw [ofZ_len]; omega) (by rw [ofZ_len]; omega) (by rw [ofZ_v]; exact den_mul_ne _ _)) rfl ?_
  rw [ofZ_v, ofZ_v, q_mul_eq]
  exact .refl

theorem r3_floor (a : BR) (ha : a.len ≤ 100000000) : CallsG Tryz.prog 216 [.agg (brE a)] [] (.agg (biE (ofZ a.v.floor))) [] := by
  have h1 := qlen_v a
  have h3 := ofQ_l a.v
  have h0 := a.v.den_nz
  refine calls_to tok mix Tryz.func216 rfl rfl rfl ?_
  refine CallV.to _ (r3_normalize a (by omega)) rfl ?_
  refine CallV.to _ (r2_divmod (ofQ a.v).num (ofQ a.v).den (by omega) (by omega) (by rw [ofQ_den]; omega)) rfl ?_
  rw [ofQ_num, ofQ_den, ← Rat.floor_def]
  exact .refl

theorem r3_bitlen (a : BR) (ha : a.len ≤ 100000000) : CallsG Tryz.prog 257 [.agg (brE a)] [] (i64 (qbits a.v)) [] := by
  have h1 := qlen_v a
  have h3 := ofQ_l a.v
  refine calls_to tok mix Tryz.func257 rfl rfl rfl ?_
  refine CallV.to _ (r3_normalize a (by omega)) rfl ?_
  refine Dr.mk (by decide +kernel) ?_
  refine CallV.to _ (r2_bitlen (ofQ a.v).num (by omega)) rfl ?_
  refine CallV.to _ (r2_bitlen (ofQ a.v).den (by omega)) rfl ?_
  rw [ofQ_num, ofQ_den, Int.natAbs_natCast]
  refine LE_int ?_
  unfold qbits
  simp only [maxL]
  omega

end Go.Gs
/- The other text's transforms. -/
namespace Go.Gs
open Go.Proofs

/-- The six numbers. -/
def coefs (t : AF) : List BR := [t.a, t.b, t.c, t.d, t.e, t.f]
theorem coefs_at {t : AF} {i : Nat} {x : BR} (h : (coefs t)[i]? = some x) : x = t.nth i := by
  have : i < 6 := (List.getElem?_eq_some_iff.1 h).1
  have e : i = 0 ∨ i = 1 ∨ i = 2 ∨ i = 3 ∨ i = 4 ∨ i = 5 := by omega
  rcases e with rfl | rfl | rfl | rfl | rfl | rfl <;> (cases h; rfl)
theorem coefs_le {t : AF} {n : Nat} (h : t.le n) : ∀ i, (t.nth i).len ≤ n := fun i => by
  obtain ⟨h1, h2, h3, h4, h5, h6⟩ := h
  unfold AF.nth; split <;> assumption

set_option maxRecDepth 100000 in
theorem r12_coefs (t : AF) : CallsG Tryz.prog 256 [.agg (afE t)] [] (.sl brE (coefs t)) [] := by
  refine calls_to tok mix Tryz.func256 rfl rfl rfl ?_
  refine ⟨BR, brE, coefs t, rfl, Ob.mk ⟨rfl, by decide, by decide, by decide, fun x _ => ⟨rfl, rfl, rfl⟩⟩ ?_⟩
  exact .refl

set_option maxRecDepth 100000 in
theorem r12_valid (t : AF) (ht : t.le 100000000) : CallsG Tryz.prog 200 [.agg (afE t)] [] (pr t.ok) [] := by
  refine calls_to tok mix Tryz.func200 rfl rfl rfl ?_
  refine CallV.to _ (r12_coefs t) rfl ?_
  refine ⟨Nat, fun i => ⟨[(4, i64 i), (3, .sl brE (coefs t))], [], 1, 19, 0⟩, fun i => i ≤ 6 ∧ okI t i, fun i => 6 - i, 0, ⟨Nat.zero_le _, trivial⟩, ?_, ?_⟩
  · exact sub_of [] rfl rfl rfl ⟨rfl, rfl, trivial⟩ trivial
  rintro i ⟨h1, h2⟩
  intro hl
  have hl6 : (coefs t).length = 6 := rfl
  refine Br.mk (fun h3 => ?_) (fun h3 => ?_)
  · refine Ob.mk ⟨by omega, by omega⟩ ?_
    intro x hx
    have hx : (coefs t)[i]? = some x := hx
    have hx := coefs_at hx
    subst hx
    refine CallV.to _ (r3_bitlen (t.nth i) (coefs_le ht i)) rfl ?_
    refine Br.mk (fun h4 => ?_) (fun h4 => ?_)
    · refine LE_false fun h => ?_
      have e : i = 0 ∨ i = 1 ∨ i = 2 ∨ i = 3 ∨ i = 4 ∨ i = 5 := by omega
      simp only [AF.ok, okI] at h
      rcases e with rfl | rfl | rfl | rfl | rfl | rfl <;> omega
    · refine Ar.fit (by omega) ?_
      exact ⟨i + 1, ⟨by omega, h2, by omega⟩, sub_of [] rfl rfl rfl ⟨rfl, rfl, trivial⟩ trivial, by dsimp only; omega⟩
  · have : i = 6 := by omega
    subst this
    exact LE_true h2

theorem r12_dot (a b c d : BR) (ha : a.len ≤ 10000000) (hb : b.len ≤ 10000000) (hc : c.len ≤ 10000000) (hd : d.len ≤ 10000000) :
    CallsG Tryz.prog 206 [.agg (brE a), .agg (brE b), .agg (brE c), .agg (brE d)] [] (.agg (brE (ofQ (a.v * b.v + c.v * d.v)))) [] := by
  have l1 := qlen_v a
  have l2 := qlen_v b
  have l3 := qlen_v c
  have l4 := qlen_v d
  have m1 := qlen_mul a.v b.v
  have m2 := qlen_mul c.v d.v
  refine calls_to tok mix Tryz.func206 rfl rfl rfl ?_
  refine Dr.mk (by decide +kernel) ?_
  refine CallV.to _ (r3_mul a b (by omega) (by omega)) rfl ?_
  refine CallV.to _ (r3_mul c d (by omega) (by omega)) rfl ?_
  refine CallV.to _ (r3_add (ofQ (a.v * b.v)) (ofQ (c.v * d.v)) (by rw [ofQ_len]; omega) (by rw [ofQ_len]; omega)) rfl ?_
  rw [ofQ_v, ofQ_v]
  exact .refl

set_option maxRecDepth 100000 in
set_option maxHeartbeats 4000000 in
theorem r12_exact (t : AF) (x y : BR) (ht : t.le 5000000) (hx : x.len ≤ 5000000) (hy : y.len ≤ 5000000) :
    CallsG Tryz.prog 148 [.agg (afE t), .agg (brE x), .agg (brE y)] [] (.tup [.agg (brE (ofQ (applX t x.v y.v))), .agg (brE (ofQ (applY t x.v y.v)))]) [] := by
  obtain ⟨ha, hb, hc, hd, he, hf⟩ := ht
  have m1 := qlen_twos t.a x t.c y t.e ha hx hc hy he
  have m2 := qlen_twos t.b x t.d y t.f hb hx hd hy hf
  refine calls_to tok mix Tryz.func148 rfl rfl rfl ?_
  refine Dr.mk (by decide +kernel) ?_
  refine CallV.to _ (r12_dot t.a x t.c y (by omega) (by omega) (by omega) (by omega)) rfl ?_
  refine CallV.to _ (r3_add (ofQ (t.a.v * x.v + t.c.v * y.v)) t.e (by rw [ofQ_len]; omega) (by omega)) rfl ?_
  refine CallV.to _ (r12_dot t.b x t.d y (by omega) (by omega) (by omega) (by omega)) rfl ?_
  refine CallV.to _ (r3_add (ofQ (t.b.v * x.v + t.d.v * y.v)) t.f (by rw [ofQ_len]; omega) (by omega)) rfl ?_
  rw [ofQ_v, ofQ_v]
  exact .refl

end Go.Gs
/- The other text's rationals: difference, comparison. -/
namespace Go.Gs
open Go.Proofs

theorem r2_cmp (a b : BI) (ha : a.mag.length ≤ 800000000) (hb : b.mag.length ≤ 800000000) : CallsG Tryz.prog 258 [.agg (biE a), .agg (biE b)] [] (i64 (a.v - b.v).sign) [] := by
  refine calls_to tok mix Tryz.func258 rfl rfl rfl ?_
  refine CallV.to _ (r2_sub a b ha hb) rfl ?_
  have h1 := zlen_sub a.v b.v
  have h2 := zlen_v a
  have h3 := zlen_v b
  refine CallV.to _ (r2_sign (ofZ (a.v - b.v)) (by rw [ofZ_len]; omega)) rfl ?_
  rw [ofZ_v]
  exact .refl

theorem r3_cmp (a b : BR) (ha : a.len ≤ 100000000) (hb : b.len ≤ 100000000) : CallsG Tryz.prog 203 [.agg (brE a), .agg (brE b)] [] (i64 (cmpQ a.v b.v)) [] := by
  have h1 := qlen_v a
  have h2 := qlen_v b
  have h3 := ofQ_l a.v
  have h4 := ofQ_l b.v
  have n1 := qlen_num a.v
  have n2 := qlen_num b.v
  have d1 := qlen_den a.v
  have d2 := qlen_den b.v
  have m1 := zlen_mul a.v.num b.v.den
  have m2 := zlen_mul b.v.num a.v.den
  refine calls_to tok mix Tryz.func203 rfl rfl rfl ?_
  refine Dr.mk (by decide +kernel) ?_
  refine CallV.to _ (r3_normalize a (by omega)) rfl ?_
  refine CallV.to _ (r3_normalize b (by omega)) rfl ?_
  refine Dr.mk (by decide +kernel) ?_
  refine CallV.to _ (r2_mul (ofQ a.v).num (ofQ b.v).den (by omega) (by omega)) rfl ?_
  refine CallV.to _ (r2_mul (ofQ b.v).num (ofQ a.v).den (by omega) (by omega)) rfl ?_
  rw [ofQ_num, ofQ_num, ofQ_den, ofQ_den]
  refine CallV.to _ (r2_cmp (ofZ (a.v.num * b.v.den)) (ofZ (b.v.num * a.v.den)) (by rw [ofZ_len]; omega) (by rw [ofZ_len]; omega)) rfl ?_
  rw [ofZ_v, ofZ_v]
  exact .refl

theorem ofQ_neg (x : Rat) : ofQ (-x) = ⟨ofZ (-x.num), ofZ x.den⟩ := by unfold ofQ; rw [Rat.neg_num, Rat.neg_den]
theorem r3_neg (a : BR) (ha : a.len ≤ 100000000) : CallsG Tryz.prog 205 [.agg (brE a)] [] (.agg (brE (ofQ (-a.v)))) [] := by
  have h1 := qlen_v a
  have h3 := ofQ_l a.v
  refine calls_to tok mix Tryz.func205 rfl rfl rfl ?_
  refine CallV.to _ (r3_normalize a (by omega)) rfl ?_
  refine Dr.mk (by decide +kernel) ?_
  refine CallV.to _ (r2_neg (ofQ a.v).num (by omega)) rfl ?_
  rw [ofQ_num, ofQ_neg]
  exact .refl

theorem r3_sub (a b : BR) (ha : a.len ≤ 40000000) (hb : b.len ≤ 40000000) : CallsG Tryz.prog 213 [.agg (brE a), .agg (brE b)] [] (.agg (brE (ofQ (a.v - b.v)))) [] := by
  have h2 := qlen_v b
  refine calls_to tok mix Tryz.func213 rfl rfl rfl ?_
  refine Dr.mk (by decide +kernel) ?_
  refine CallV.to _ (r3_neg b (by omega)) rfl ?_
  refine CallV.to _ (r3_add a (ofQ (-b.v)) (by omega) (by rw [ofQ_len, qlen_neg]; omega)) rfl ?_
  rw [ofQ_v, ← Rat.sub_eq_add_neg]
  exact .refl

end Go.Gs
/- The other text's transforms: equality, determinant, composition. -/
namespace Go.Gs
open Go.Proofs

theorem bi_eq {a b : BI} {i : Nat} (h1 : a.neg = true ↔ b.neg = true) (hl : a.mag.length = b.mag.length) (hi : ¬ i < a.mag.length) (h : ∀ j, j < i → a.mag[j]? = b.mag[j]?) : a = b := by
  obtain ⟨n, m⟩ := a
  obtain ⟨n', m'⟩ := b
  have e1 : n = n' := Bool.eq_iff_iff.2 h1
  have e2 : m = m' := List.ext_getElem? fun j => by
    by_cases hj : j < i
    · exact h j hj
    · dsimp only at hl hi; rw [List.getElem?_eq_none (by omega), List.getElem?_eq_none (by omega)]
  subst e1 e2; rfl

set_option maxRecDepth 100000 in
theorem r3_sameint (a b : BI) (ha : a.mag.length ≤ 100000000) : CallsG Tryz.prog 315 [.agg (biE a), .agg (biE b)] [] (pr (a = b)) [] := by
  refine calls_to tok mix Tryz.func315 rfl rfl rfl ?_
  refine Br.mk (fun h1 => LE_false fun e => h1 (by rw [e])) (fun h1 => ?_)
  have h1 := Decidable.not_not.1 h1
  intro hl1 hl2
  refine Br.mk (fun h2 => LE_false fun e => h2 (by rw [e])) (fun h2 => ?_)
  have h2 := Decidable.not_not.1 h2
  refine ⟨Nat, fun i => ⟨[(5, i64 i), (3, .loc 1 0), (2, .loc 0 0)], [(1, .box 39 (biE b)), (0, .box 39 (biE a))], 2, 38, 0⟩, fun i => i ≤ a.mag.length ∧ ∀ j, j < i → a.mag[j]? = b.mag[j]?, fun i => a.mag.length - i, 0, ⟨Nat.zero_le _, fun j h => by omega⟩, ?_, ?_⟩
  · exact sub_of [(0, some 0), (1, some 1)] rfl rfl rfl ⟨rfl, rfl, rfl, trivial⟩ ⟨rfl, rfl, trivial⟩
  rintro i ⟨hi, hs⟩
  intro hl3
  refine Br.mk (fun h3 => ?_) (fun h3 => LE_true (bi_eq h1 (by omega) (by omega) hs))
  refine Dr.mk (by decide +kernel) ?_
  refine Ob.mk (by omega) ?_
  intro x hx
  have hx : a.mag[i]? = some x := hx
  refine Ob.mk (by omega) ?_
  intro y hy
  have hy : b.mag[i]? = some y := hy
  refine Br.mk (fun h4 => LE_false fun e => ?_) (fun h4 => ?_)
  · subst e; rw [hx] at hy; cases hy; exact h4 rfl
  · have h4 := Decidable.not_not.1 h4
    have exy : x = y := Fin.ext (by omega)
    refine Ar.fit (by omega) ?_
    refine ⟨i + 1, ⟨by omega, fun j hj => ?_⟩, sub_of [(0, some 0), (1, some 1)] rfl rfl rfl ⟨rfl, rfl, rfl, trivial⟩ ⟨rfl, rfl, trivial⟩, by dsimp only; omega⟩
    by_cases e : j = i
    · subst e; rw [hx, hy, exy]
    · exact hs j (by omega)

theorem r3_same (a b : BR) (ha : a.len ≤ 100000000) : CallsG Tryz.prog 314 [.agg (brE a), .agg (brE b)] [] (pr (a = b)) [] := by
  have h1 : a.num.mag.length ≤ a.len := Nat.le_max_left _ _
  have h2 : a.den.mag.length ≤ a.len := Nat.le_max_right _ _
  refine calls_to tok mix Tryz.func314 rfl rfl rfl ?_
  refine CallV.to _ (r3_sameint a.num b.num (by omega)) rfl ?_
  refine Br.mk (fun e1 => ?_) (fun e1 => LE_false fun e => e1 (by rw [e]))
  refine CallV.to _ (r3_sameint a.den b.den (by omega)) rfl ?_
  refine LE_pr ⟨fun e2 => ?_, fun e => by rw [e]⟩
  cases a; cases b; simp_all

theorem r3_sameall (xs ys : List BR) (hx : ∀ x ∈ xs, x.len ≤ 100000000) : CallsG Tryz.prog 313 [.sl brE xs, .sl brE ys] [] (pr (xs = ys)) [] := by
  refine calls_to tok mix Tryz.func313 rfl rfl rfl ?_
  intro hl1 hl2
  refine Br.mk (fun h1 => LE_false fun e => h1 (by rw [e])) (fun h1 => ?_)
  have h1 := Decidable.not_not.1 h1
  refine ⟨Nat, fun i => ⟨[(5, i64 i), (0, .sl brE xs), (1, .sl brE ys)], [], 0, 27, 0⟩, fun i => i ≤ xs.length ∧ ∀ j, j < i → xs[j]? = ys[j]?, fun i => xs.length - i, 0, ⟨Nat.zero_le _, fun j h => by omega⟩, ?_, ?_⟩
  · exact sub_of [] rfl rfl rfl ⟨rfl, rfl, rfl, trivial⟩ trivial
  rintro i ⟨hi, hs⟩
  intro hl3
  refine Br.mk (fun h3 => ?_) (fun h3 => ?_)
  · refine Dr.mk (by decide +kernel) ?_
    refine Ob.mk (by omega) ?_
    intro x hx1
    have hx1 : xs[i]? = some x := hx1
    refine Ob.mk (by omega) ?_
    intro y hy
    have hy : ys[i]? = some y := hy
    refine CallV.to _ (r3_same x y (hx x (List.mem_of_getElem? hx1))) rfl ?_
    refine Br.mk (fun h4 => LE_false fun e => ?_) (fun h4 => ?_)
    · subst e; rw [hx1] at hy; cases hy; exact h4 rfl
    · have exy := Decidable.not_not.1 h4
      refine Ar.fit (by omega) ?_
      refine ⟨i + 1, ⟨by omega, fun j hj => ?_⟩, sub_of [] rfl rfl rfl ⟨rfl, rfl, rfl, trivial⟩ trivial, by dsimp only; omega⟩
      by_cases e : j = i
      · subst e; rw [hx1, hy, exy]
      · exact hs j (by omega)
  · refine LE_true (List.ext_getElem? fun j => ?_)
    by_cases hj : j < i
    · exact hs j hj
    · rw [List.getElem?_eq_none (by omega), List.getElem?_eq_none (by omega)]

theorem ofQ_inj {x y : Rat} (h : ofQ x = ofQ y) : x = y := by rw [← ofQ_v x, ← ofQ_v y, h]
theorem coefs_len {t : AF} {n : Nat} (h : t.le n) : ∀ x ∈ coefs t, x.len ≤ n := fun x hx => by
  obtain ⟨h1, h2, h3, h4, h5, h6⟩ := h
  simp only [coefs, List.mem_cons, List.not_mem_nil, or_false] at hx
  rcases hx with rfl | rfl | rfl | rfl | rfl | rfl <;> assumption
set_option maxRecDepth 100000 in
theorem r12_fields (t u : AF) (ht : t.le 100000000) : CallsG Tryz.prog 310 [.agg (afE t), .agg (afE u)] [] (pr (coefs t = coefs u)) [] := by
  refine calls_to tok mix Tryz.func310 rfl rfl rfl ?_
  refine Dr.mk (by decide +kernel) ?_
  refine CallV.to _ (r12_coefs t) rfl ?_
  refine CallV.to _ (r12_coefs u) rfl ?_
  refine CallV.to _ (r3_sameall (coefs t) (coefs u) (coefs_len ht)) rfl ?_
  exact LE_pr Iff.rfl
set_option maxRecDepth 100000 in
set_option maxHeartbeats 1000000 in
theorem r12_normalize (t : AF) (ht : t.le 100000000) : CallsG Tryz.prog 311 [.agg (afE t)] [] (.agg (afE t.nrm)) [] := by
  obtain ⟨ha, hb, hc, hd, he, hf⟩ := ht
  refine calls_to tok mix Tryz.func311 rfl rfl rfl ?_
  refine Dr.mk (by decide +kernel) ?_
  refine CallV.to _ (r3_normalize t.a (by omega)) rfl ?_
  refine CallV.to _ (r3_normalize t.b (by omega)) rfl ?_
  refine CallV.to _ (r3_normalize t.c (by omega)) rfl ?_
  refine CallV.to _ (r3_normalize t.d (by omega)) rfl ?_
  refine CallV.to _ (r3_normalize t.e (by omega)) rfl ?_
  refine CallV.to _ (r3_normalize t.f (by omega)) rfl ?_
  exact .refl
theorem same_iff {t u : AF} : coefs t.nrm = coefs u.nrm ↔ t.same u := by
  constructor
  · intro h
    simp only [coefs, AF.nrm, List.cons.injEq, and_true] at h
    exact ⟨ofQ_inj h.1, ofQ_inj h.2.1, ofQ_inj h.2.2.1, ofQ_inj h.2.2.2.1, ofQ_inj h.2.2.2.2.1, ofQ_inj h.2.2.2.2.2⟩
  · rintro ⟨h1, h2, h3, h4, h5, h6⟩
    simp only [coefs, AF.nrm, h1, h2, h3, h4, h5, h6]
set_option maxRecDepth 100000 in
theorem r12_equal (t u : AF) (ht : t.le 10000000) (hu : u.le 10000000) : CallsG Tryz.prog 307 [.agg (afE t), .agg (afE u)] [] (pr (t.same u)) [] := by
  have hn := AF.le_len ht
  obtain ⟨ha, hb, hc, hd, he, hf⟩ := ht
  obtain ⟨ka, kb, kc, kd, ke, kf⟩ := hu
  obtain ⟨na, nb, nc, nd, ne, nf⟩ := hn
  refine calls_to tok mix Tryz.func307 rfl rfl rfl ?_
  refine Dr.mk (by decide +kernel) ?_
  refine CallV.to _ (r12_normalize t ⟨by omega, by omega, by omega, by omega, by omega, by omega⟩) rfl ?_
  refine CallV.to _ (r12_normalize u ⟨by omega, by omega, by omega, by omega, by omega, by omega⟩) rfl ?_
  refine CallV.to _ (r12_fields t.nrm u.nrm ⟨by omega, by omega, by omega, by omega, by omega, by omega⟩) rfl ?_
  exact LE_pr same_iff

theorem r12_det (t : AF) (ht : t.le 10000000) : CallsG Tryz.prog 202 [.agg (afE t)] [] (.agg (brE (ofQ (detQ t)))) [] := by
  obtain ⟨ha, hb, hc, hd, he, hf⟩ := ht
  have l1 := qlen_v t.a
  have l2 := qlen_v t.b
  have l3 := qlen_v t.c
  have l4 := qlen_v t.d
  have m1 := qlen_mul t.a.v t.d.v
  have m2 := qlen_mul t.b.v t.c.v
  refine calls_to tok mix Tryz.func202 rfl rfl rfl ?_
  refine Dr.mk (by decide +kernel) ?_
  refine CallV.to _ (r3_mul t.a t.d (by omega) (by omega)) rfl ?_
  refine CallV.to _ (r3_mul t.b t.c (by omega) (by omega)) rfl ?_
  refine CallV.to _ (r3_sub (ofQ (t.a.v * t.d.v)) (ofQ (t.b.v * t.c.v)) (by rw [ofQ_len]; omega) (by rw [ofQ_len]; omega)) rfl ?_
  rw [ofQ_v, ofQ_v]
  exact .refl

theorem r3_quo (a b : BR) (ha : a.len ≤ 50000000) (hb : b.len ≤ 50000000) (h0 : b.v ≠ 0) : CallsG Tryz.prog 153 [.agg (brE a), .agg (brE b)] [] (.tup [.agg (brE (ofQ (a.v / b.v))), i64 0]) [] := by
  have h1 := qlen_v a
  have h2 := qlen_v b
  have h3 := ofQ_l a.v
  have h4 := ofQ_l b.v
  have n1 := qlen_num a.v
  have n2 := qlen_num b.v
  have d1 := qlen_den a.v
  have d2 := qlen_den b.v
  have m1 := zlen_mul a.v.num b.v.den
  have m3 := zlen_mul a.v.den b.v.num
  refine calls_to tok mix Tryz.func153 rfl rfl rfl ?_
  refine Dr.mk (by decide +kernel) ?_
  refine CallV.to _ (r3_normalize a (by omega)) rfl ?_
  refine CallV.to _ (r3_normalize b (by omega)) rfl ?_
  refine Dr.mk (by decide +kernel) ?_
  refine CallV.to _ (r2_mul (ofQ a.v).num (ofQ b.v).den (by omega) (by omega)) rfl ?_
  refine CallV.to _ (r2_mul (ofQ a.v).den (ofQ b.v).num (by omega) (by omega)) rfl ?_
  rw [ofQ_num, ofQ_num, ofQ_den, ofQ_den]
  refine CallV.to _ (r3_new (ofZ (a.v.num * b.v.den)) (ofZ (a.v.den * b.v.num)) (by rw [ofZ_len]; omega) (by rw [ofZ_len]; omega) (by
    rw [ofZ_v]; exact Int.mul_ne_zero (den_ne _) (fun h => h0 (Rat.num_eq_zero.1 h)))) rfl ?_
  rw [ofZ_v, ofZ_v, q_quo_eq]
  exact .refl

set_option maxRecDepth 100000 in
set_option maxHeartbeats 4000000 in
theorem r12_compose (t u : AF) (ht : t.le 1000000) (hu : u.le 1000000) : CallsG Tryz.prog 201 [.agg (afE t), .agg (afE u)] [] (.agg (afE (beh t u))) [] := by
  obtain ⟨ha, hb, hc, hd, he, hf⟩ := ht
  obtain ⟨ka, kb, kc, kd, ke, kf⟩ := hu
  have m5 := qlen_twos u.a t.e u.c t.f u.e ka he kc hf ke
  have m6 := qlen_twos u.b t.e u.d t.f u.f kb he kd hf kf
  refine calls_to tok mix Tryz.func201 rfl rfl rfl ?_
  refine Dr.mk (by decide +kernel) ?_
  refine CallV.to _ (r12_dot u.a t.a u.c t.b (by omega) (by omega) (by omega) (by omega)) rfl ?_
  refine CallV.to _ (r12_dot u.b t.a u.d t.b (by omega) (by omega) (by omega) (by omega)) rfl ?_
  refine CallV.to _ (r12_dot u.a t.c u.c t.d (by omega) (by omega) (by omega) (by omega)) rfl ?_
  refine CallV.to _ (r12_dot u.b t.c u.d t.d (by omega) (by omega) (by omega) (by omega)) rfl ?_
  refine CallV.to _ (r12_dot u.a t.e u.c t.f (by omega) (by omega) (by omega) (by omega)) rfl ?_
  refine CallV.to _ (r3_add (ofQ (u.a.v * t.e.v + u.c.v * t.f.v)) u.e (by rw [ofQ_len]; omega) (by omega)) rfl ?_
  refine CallV.to _ (r12_dot u.b t.e u.d t.f (by omega) (by omega) (by omega) (by omega)) rfl ?_
  refine CallV.to _ (r3_add (ofQ (u.b.v * t.e.v + u.d.v * t.f.v)) u.f (by rw [ofQ_len]; omega) (by omega)) rfl ?_
  rw [ofQ_v, ofQ_v]
  exact .refl

end Go.Gs
/- Transforms, both texts: two of them composed, and the inverse. -/
namespace Go.Gs
open Go.Proofs

def zBR : BR := ⟨⟨false, []⟩, ⟨false, []⟩⟩
def zeroAF : AF := ⟨zBR, zBR, zBR, zBR, zBR, zBR⟩
theorem zBR_v : zBR.v = 0 := by decide +kernel
theorem LE_zBR : LEs [bl false, .val (.slice none 0 0), bl false, .val (.slice none 0 0)] (brE zBR) :=
  .cons (LE_false (by decide)) (.cons LE_nil0 (.cons (LE_false (by decide)) (.cons LE_nil0 .nil)))
theorem LEs.append : ∀ {xs bs cs ds : List SV}, LEs xs bs → LEs cs ds → LEs (xs ++ cs) (bs ++ ds)
  | [], [], _, _, _, h => h
  | _ :: _, _ :: _, _, _, .cons h hs, k => .cons h (LEs.append hs k)
def z4 : List SV := [bl false, .val (.slice none 0 0), bl false, .val (.slice none 0 0)]
theorem LE_zero24 : LE (.agg zero24) (.agg (afE zeroAF)) := by
  have LE_zBR : LEs z4 (brE zBR) := LE_zBR
  have h : LE (.agg (z4 ++ (z4 ++ (z4 ++ (z4 ++ (z4 ++ z4)))))) (.agg (afE zeroAF)) := LE_agg (LEs.append LE_zBR (LEs.append LE_zBR (LEs.append LE_zBR (LEs.append LE_zBR (LEs.append LE_zBR LE_zBR)))))
  exact h
/-- The identity. -/
def idA : AF := afQ ((1 : Int) : Rat) ((0 : Int) : Rat) ((0 : Int) : Rat) ((1 : Int) : Rat) ((0 : Int) : Rat) ((0 : Int) : Rat)
theorem idA_le : idA.le 2 := ⟨by decide +kernel, by decide +kernel, by decide +kernel, by decide +kernel, by decide +kernel, by decide +kernel⟩
/-- First 'p', then 't', or the error. -/
def compR (p t : AF) : AF × Int :=
  if ¬ p.ok then (zeroAF, 5) else if ¬ t.ok then (zeroAF, 5) else if ¬ (beh idA p).ok then (zeroAF, 5) else if ¬ (beh (beh idA p) t).ok then (zeroAF, 5) else (beh (beh idA p) t, 0)
theorem beh_nrm (t u : AF) : (beh t u).nrm = beh t u := by
  unfold beh AF.nrm afQ; simp only [ofQ_v]
theorem beh_ok_le {t u : AF} (h : (beh t u).ok) : (beh t u).le 8 := by
  have := ok_le (t := beh t u) (by rw [beh_nrm]; exact h)
  rwa [beh_nrm] at this
theorem AF.le.up {t : AF} {n m : Nat} (h : t.le n) (k : n ≤ m) : t.le m := by
  obtain ⟨h1, h2, h3, h4, h5, h6⟩ := h
  exact ⟨by omega, by omega, by omega, by omega, by omega, by omega⟩

set_option maxRecDepth 100000 in
set_option maxHeartbeats 4000000 in
theorem a_compose (p t : AF) (hp : p.le 100) (ht : t.le 100) : CallsG Tryz.prog 88 [.sl afE [p, t]] [] (.tup [.agg (afE (compR p t).1), i64 (compR p t).2]) [] := by
  have bad : compR p t = (zeroAF, 5) → LE (.tup [.agg zero24, i64 5]) (.tup [.agg (afE (compR p t).1), i64 (compR p t).2]) := fun h => by
    rw [h]; exact LE_tup2 LE_zero24 .refl
  refine calls_to tok mix Tryz.func88 rfl rfl rfl ?_
  refine CallV.to _ a_identity rfl ?_
  intro _
  refine ⟨Nat, fun i => ⟨[(12, i64 i), (11, i64 2), (10, .sl afE [p, t]), (4, .loc 1 0), (2, .loc 0 0), (0, .sl afE [p, t])], [(1, .box 43 (afE idA)), (0, .box 43 zero24)], 2, 37, 0⟩,
    fun i => i ≤ 2 ∧ (1 ≤ i → p.ok) ∧ (2 ≤ i → t.ok), fun i => 2 - i, 0, ⟨by decide, fun h => by omega, fun h => by omega⟩, ?_, ?_⟩
  · exact sub_of [(0, some 0), (1, some 1)] rfl rfl rfl ⟨rfl, rfl, rfl, rfl, rfl, rfl, trivial⟩ ⟨rfl, rfl, trivial⟩
  rintro i ⟨hi, o1, o2⟩
  have hi : i = 0 ∨ i = 1 ∨ i = 2 := by omega
  rcases hi with rfl | rfl | rfl
  · refine Br.mk (fun _ => ?_) (fun h => absurd (by decide) h)
    refine Ob.mk ⟨by decide, by show (0 : Int) < 2; decide⟩ ?_
    intro x hx
    cases hx
    refine CallV.to _ (a_valid p (hp.up (by decide))) rfl ?_
    refine Br.mk (fun h => bad (if_pos h)) (fun h => ?_)
    refine Ar.fit (by decide) ?_
    exact ⟨1, ⟨by decide, fun _ => Decidable.not_not.1 h, fun h => by omega⟩, sub_of [(0, some 0), (1, some 1)] rfl rfl rfl ⟨rfl, rfl, rfl, rfl, rfl, rfl, trivial⟩ ⟨rfl, rfl, trivial⟩, by decide⟩
  · refine Br.mk (fun _ => ?_) (fun h => absurd (by decide) h)
    refine Ob.mk ⟨by decide, by show (1 : Int) < 2; decide⟩ ?_
    intro x hx
    cases hx
    have o1 := o1 (by decide)
    refine CallV.to _ (a_valid t (ht.up (by decide))) rfl ?_
    refine Br.mk (fun h => bad ((if_neg (fun k => k o1)).trans (if_pos h))) (fun h => ?_)
    refine Ar.fit (by decide) ?_
    exact ⟨2, ⟨by decide, fun _ => o1, fun _ => Decidable.not_not.1 h⟩, sub_of [(0, some 0), (1, some 1)] rfl rfl rfl ⟨rfl, rfl, rfl, rfl, rfl, rfl, trivial⟩ ⟨rfl, rfl, trivial⟩, by decide⟩
  refine Br.mk (fun h => absurd h (by decide)) (fun _ => ?_)
  have o1 := o1 (by decide)
  have o2 := o2 (by decide)
  intro _
  have e0 : compR p t = if ¬ (beh idA p).ok then (zeroAF, 5) else if ¬ (beh (beh idA p) t).ok then (zeroAF, 5) else (beh (beh idA p) t, 0) := (if_neg (fun k => k o1)).trans (if_neg (fun k => k o2))
  have l1 := beh_le (n := 100) (idA_le.up (by decide)) hp
  have stg : ∀ i : Nat, ∃ A : AF, A = if i = 0 then idA else if i = 1 then beh idA p else beh (beh idA p) t := fun i => ⟨_, rfl⟩
  refine ⟨Nat, fun i => ⟨[(23, i64 i), (22, i64 2), (21, .sl afE [p, t]), (4, .loc 1 0), (2, .loc 0 0)], [(1, .box 43 (afE (if i = 0 then idA else if i = 1 then beh idA p else beh (beh idA p) t))), (0, .box 43 zero24)], 2, 37, 0⟩,
    fun i => i ≤ 2 ∧ (1 ≤ i → (beh idA p).ok) ∧ (2 ≤ i → (beh (beh idA p) t).ok), fun i => 2 - i, 0, ⟨by decide, fun h => by omega, fun h => by omega⟩, ?_, ?_⟩
  · exact sub_of [(0, some 0), (1, some 1)] rfl rfl rfl ⟨rfl, rfl, rfl, rfl, rfl, trivial⟩ ⟨rfl, rfl, trivial⟩
  rintro i ⟨hi, s1, s2⟩
  have hi : i = 0 ∨ i = 1 ∨ i = 2 := by omega
  rcases hi with rfl | rfl | rfl
  · refine Br.mk (fun _ => ?_) (fun h => absurd (by decide) h)
    refine Ob.mk ⟨by decide, by show (0 : Int) < 2; decide⟩ ?_
    intro x hx
    cases hx
    refine CallV.to _ (a_behind idA p (idA_le.up (by decide)) (hp.up (by decide))) rfl ?_
    refine CallV.to _ (a_valid (beh idA p) (l1.up (by decide))) rfl ?_
    refine Br.mk (fun h => bad (e0.trans (if_pos h))) (fun h => ?_)
    refine Ar.fit (by decide) ?_
    exact ⟨1, ⟨by decide, fun _ => Decidable.not_not.1 h, fun h => by omega⟩, sub_of [(0, some 0), (1, some 1)] rfl rfl rfl ⟨rfl, rfl, rfl, rfl, rfl, trivial⟩ ⟨rfl, rfl, trivial⟩, by decide⟩
  · refine Br.mk (fun _ => ?_) (fun h => absurd (by decide) h)
    refine Ob.mk ⟨by decide, by show (1 : Int) < 2; decide⟩ ?_
    intro x hx
    cases hx
    have s1 := s1 (by decide)
    have l2 := beh_le (n := 100) ((beh_ok_le s1).up (by decide)) ht
    refine CallV.to _ (a_behind (beh idA p) t ((beh_ok_le s1).up (by decide)) (ht.up (by decide))) rfl ?_
    refine CallV.to _ (a_valid (beh (beh idA p) t) (l2.up (by decide))) rfl ?_
    refine Br.mk (fun h => bad (e0.trans ((if_neg (fun k => k s1)).trans (if_pos h)))) (fun h => ?_)
    refine Ar.fit (by decide) ?_
    exact ⟨2, ⟨by decide, fun _ => s1, fun _ => Decidable.not_not.1 h⟩, sub_of [(0, some 0), (1, some 1)] rfl rfl rfl ⟨rfl, rfl, rfl, rfl, rfl, trivial⟩ ⟨rfl, rfl, trivial⟩, by decide⟩
  refine Br.mk (fun h => absurd h (by decide)) (fun _ => ?_)
  have s1 := s1 (by decide)
  have s2 := s2 (by decide)
  refine CallV.to _ (a_normalize (beh (beh idA p) t) ((beh_ok_le s2).up (by decide))) rfl ?_
  rw [beh_nrm, e0.trans ((if_neg (fun k => k s1)).trans (if_neg (fun k => k s2)))]
  exact LE_tup2 .refl .refl

/-! The other text -/
set_option maxRecDepth 100000 in
set_option maxHeartbeats 4000000 in
theorem r12_fromints (a b c d : Int) (e f : BR) (ha : R64 a) (hb : R64 b) (hc : R64 c) (hd : R64 d) (he : e.len ≤ 100000000) (hf : f.len ≤ 100000000) :
    CallsG Tryz.prog 73 [i64 a, i64 b, i64 c, i64 d, .agg (brE e), .agg (brE f)] [] (.agg (afE (afQ a b c d e.v f.v))) [] := by
  refine calls_to tok mix Tryz.func73 rfl rfl rfl ?_
  refine Dr.mk (by decide +kernel) ?_
  refine CallV.to _ (r3_fromInt a ha) rfl ?_
  refine CallV.to _ (r3_fromInt b hb) rfl ?_
  refine CallV.to _ (r3_fromInt c hc) rfl ?_
  refine CallV.to _ (r3_fromInt d hd) rfl ?_
  refine CallV.to _ (r3_normalize e (by omega)) rfl ?_
  refine CallV.to _ (r3_normalize f (by omega)) rfl ?_
  exact .refl
theorem zBR_eq : zBR.v = ((0 : Int) : Rat) := by decide +kernel
set_option maxRecDepth 100000 in
theorem r12_identity : CallsG Tryz.prog 36 [] [] (.agg (afE idA)) [] := by
  refine calls_to tok mix Tryz.func36 rfl rfl rfl ?_
  refine CallV.to _ ((r12_fromints 1 0 0 1 zBR zBR (by decide) (by decide) (by decide) (by decide) (by decide) (by decide)).args
    (.cons .refl (.cons .refl (.cons .refl (.cons .refl (.cons (LE_agg LE_zBR) (.cons (LE_agg LE_zBR) .nil))))))) rfl ?_
  rw [zBR_eq]
  exact .refl

set_option maxRecDepth 100000 in
set_option maxHeartbeats 4000000 in
theorem r12_comp (p t : AF) (hp : p.le 100) (ht : t.le 100) : CallsG Tryz.prog 146 [.sl afE [p, t]] [] (.tup [.agg (afE (compR p t).1), i64 (compR p t).2]) [] := by
  have bad : compR p t = (zeroAF, 5) → LE (.tup [.agg zero24, i64 5]) (.tup [.agg (afE (compR p t).1), i64 (compR p t).2]) := fun h => by
    rw [h]; exact LE_tup2 LE_zero24 .refl
  have bad3 : ¬ (p.ok ∧ t.ok ∧ (beh idA p).ok ∧ (beh (beh idA p) t).ok) → compR p t = (zeroAF, 5) := fun h => by
    unfold compR
    split
    · rfl
    · split
      · rfl
      · split
        · rfl
        · split
          · rfl
          · exact absurd ⟨Decidable.not_not.1 ‹_›, Decidable.not_not.1 ‹_›, Decidable.not_not.1 ‹_›, Decidable.not_not.1 ‹_›⟩ h
  refine calls_to tok mix Tryz.func146 rfl rfl rfl ?_
  refine CallV.to _ r12_identity rfl ?_
  have l1 := beh_le (n := 100) (idA_le.up (by decide)) hp
  refine ⟨Nat, fun i => ⟨[(5, i64 i), (4, .loc 1 0), (2, .loc 0 0), (0, .sl afE [p, t])], [(1, .box 43 (afE (if i = 0 then idA else if i = 1 then beh idA p else beh (beh idA p) t))), (0, .box 43 zero24)], 2, 31, 0⟩,
    fun i => i ≤ 2 ∧ (1 ≤ i → p.ok ∧ (beh idA p).ok) ∧ (2 ≤ i → t.ok ∧ (beh (beh idA p) t).ok), fun i => 2 - i, 0, ⟨by decide, fun h => by omega, fun h => by omega⟩, ?_, ?_⟩
  · exact sub_of [(0, some 0), (1, some 1)] rfl rfl rfl ⟨rfl, rfl, rfl, rfl, trivial⟩ ⟨rfl, rfl, trivial⟩
  rintro i ⟨hi, s1, s2⟩
  intro _
  have hi : i = 0 ∨ i = 1 ∨ i = 2 := by omega
  rcases hi with rfl | rfl | rfl
  · refine Br.mk (fun _ => ?_) (fun h => absurd (show ((0 : Nat) : Int) < 2 by decide) h)
    refine Ob.mk ⟨by decide, by show (0 : Int) < 2; decide⟩ ?_
    intro x hx
    cases hx
    refine CallV.to _ (r12_valid p (hp.up (by decide))) rfl ?_
    refine Br.mk (fun h => bad (bad3 fun k => h k.1)) (fun h => ?_)
    refine Dr.mk (by decide +kernel) ?_
    refine Ob.mk ⟨by decide, by show (0 : Int) < 2; decide⟩ ?_
    intro x hx
    cases hx
    refine CallV.to _ (r12_compose idA p (idA_le.up (by decide)) (hp.up (by decide))) rfl ?_
    refine CallV.to _ (r12_valid (beh idA p) (l1.up (by decide))) rfl ?_
    refine Br.mk (fun h => bad (bad3 fun k => h k.2.2.1)) (fun h2 => ?_)
    refine Ar.fit (by decide) ?_
    exact ⟨1, ⟨by decide, fun _ => ⟨Decidable.not_not.1 h, Decidable.not_not.1 h2⟩, fun h => by omega⟩, sub_of [(0, some 0), (1, some 1)] rfl rfl rfl ⟨rfl, rfl, rfl, rfl, trivial⟩ ⟨rfl, rfl, trivial⟩, by decide⟩
  · refine Br.mk (fun _ => ?_) (fun h => absurd (show ((1 : Nat) : Int) < 2 by decide) h)
    have s1 := s1 (by decide)
    refine Ob.mk ⟨by decide, by show (1 : Int) < 2; decide⟩ ?_
    intro x hx
    cases hx
    refine CallV.to _ (r12_valid t (ht.up (by decide))) rfl ?_
    refine Br.mk (fun h => bad (bad3 fun k => h k.2.1)) (fun h => ?_)
    refine Dr.mk (by decide +kernel) ?_
    refine Ob.mk ⟨by decide, by show (1 : Int) < 2; decide⟩ ?_
    intro x hx
    cases hx
    have l2 := beh_le (n := 100) ((beh_ok_le s1.2).up (by decide)) ht
    refine CallV.to _ (r12_compose (beh idA p) t ((beh_ok_le s1.2).up (by decide)) (ht.up (by decide))) rfl ?_
    refine CallV.to _ (r12_valid (beh (beh idA p) t) (l2.up (by decide))) rfl ?_
    refine Br.mk (fun h => bad (bad3 fun k => h k.2.2.2)) (fun h2 => ?_)
    refine Ar.fit (by decide) ?_
    exact ⟨2, ⟨by decide, fun _ => s1, fun _ => ⟨Decidable.not_not.1 h, Decidable.not_not.1 h2⟩⟩, sub_of [(0, some 0), (1, some 1)] rfl rfl rfl ⟨rfl, rfl, rfl, rfl, trivial⟩ ⟨rfl, rfl, trivial⟩, by decide⟩
  refine Br.mk (fun h => absurd h (by show ¬ ((2 : Nat) : Int) < 2; decide)) (fun _ => ?_)
  have s1 := s1 (by decide)
  have s2 := s2 (by decide)
  have e : compR p t = (beh (beh idA p) t, 0) := (if_neg (fun k => k s1.1)).trans ((if_neg (fun k => k s2.1)).trans ((if_neg (fun k => k s1.2)).trans (if_neg (fun k => k s2.2))))
  rw [e]
  exact LE_tup2 .refl .refl

end Go.Gs
/- Transforms, both texts: the inverse. -/
namespace Go.Gs
open Go.Proofs

/-- The inverse's linear part. -/
def inv0 (t : AF) : AF := ⟨ofQ (t.d.v / detQ t), ofQ (-t.b.v / detQ t), ofQ (-t.c.v / detQ t), ofQ (t.a.v / detQ t), zBR, zBR⟩
/-- The inverse. -/
def invA (t : AF) : AF := { inv0 t with e := ofQ (-(applX (inv0 t) t.e.v t.f.v)), f := ofQ (-(applY (inv0 t) t.e.v t.f.v)) }
def invR (t : AF) : AF × Int := if ¬ t.ok then (zeroAF, 5) else if detQ t = 0 then (zeroAF, 9) else if ¬ (invA t).ok then (zeroAF, 5) else (invA t, 0)
theorem invA_nrm (t : AF) : (invA t).nrm = invA t := by
  unfold invA inv0 AF.nrm; simp only [ofQ_v]

theorem qlen_div (x y : Rat) (h : y ≠ 0) : qlen (x / y) ≤ qlen x + qlen y := by
  rw [← q_quo_eq]
  have hy : y.num ≠ 0 := fun k => h (Rat.num_eq_zero.1 k)
  have h1 := qlen_divInt (n := x.num * y.den) (Int.mul_ne_zero (den_ne x) hy)
  have h2 := zlen_mul x.num y.den
  have h4 := zlen_mul x.den y.num
  have a1 := qlen_num x
  have a2 := qlen_num y
  have a3 := qlen_den x
  have a4 := qlen_den y
  omega
theorem det_len (t : AF) {n : Nat} (ht : t.le n) (hn : 1 ≤ n) : qlen (detQ t) ≤ 4 * n + 1 := by
  obtain ⟨ha, hb, hc, hd, he, hf⟩ := ht
  have l1 := qlen_v t.a
  have l2 := qlen_v t.b
  have l3 := qlen_v t.c
  have l4 := qlen_v t.d
  have m1 := qlen_mul t.a.v t.d.v
  have m2 := qlen_mul t.b.v t.c.v
  have m3 := qlen_sub (t.a.v * t.d.v) (t.b.v * t.c.v)
  show qlen (t.a.v * t.d.v - t.b.v * t.c.v) ≤ _
  omega
theorem inv0_le {t : AF} {n : Nat} (ht : t.le n) (hn : 1 ≤ n) (h0 : detQ t ≠ 0) : (inv0 t).le (5 * n + 1) := by
  have hd' := det_len t ht hn
  obtain ⟨ha, hb, hc, hd, he, hf⟩ := ht
  have l1 := qlen_v t.a
  have l2 := qlen_v t.b
  have l3 := qlen_v t.c
  have l4 := qlen_v t.d
  have n2 := qlen_neg t.b.v
  have n3 := qlen_neg t.c.v
  have q1 := qlen_div t.d.v (detQ t) h0
  have q2 := qlen_div (-t.b.v) (detQ t) h0
  have q3 := qlen_div (-t.c.v) (detQ t) h0
  have q4 := qlen_div t.a.v (detQ t) h0
  refine ⟨?_, ?_, ?_, ?_, ?_, ?_⟩
  · show (ofQ _).len ≤ _; rw [ofQ_len]; omega
  · show (ofQ _).len ≤ _; rw [ofQ_len]; omega
  · show (ofQ _).len ≤ _; rw [ofQ_len]; omega
  · show (ofQ _).len ≤ _; rw [ofQ_len]; omega
  · show 0 ≤ _; omega
  · show 0 ≤ _; omega
theorem invA_le {t : AF} {n : Nat} (ht : t.le n) (hn : 1 ≤ n) (h0 : detQ t ≠ 0) : (invA t).le (100 * n + 100) := by
  have hi := inv0_le ht hn h0
  obtain ⟨ha, hb, hc, hd, he, hf⟩ := ht
  obtain ⟨ia, ib, ic, id, ie, if'⟩ := hi
  have m1 := qlen_twos (n := 5 * n + 1) (inv0 t).a t.e (inv0 t).c t.f (inv0 t).e ia (by omega) ic (by omega) ie
  have m2 := qlen_twos (n := 5 * n + 1) (inv0 t).b t.e (inv0 t).d t.f (inv0 t).f ib (by omega) id (by omega) if'
  refine ⟨?_, ?_, ?_, ?_, ?_, ?_⟩
  · show (inv0 t).a.len ≤ _; omega
  · show (inv0 t).b.len ≤ _; omega
  · show (inv0 t).c.len ≤ _; omega
  · show (inv0 t).d.len ≤ _; omega
  · show (ofQ (-(applX (inv0 t) t.e.v t.f.v))).len ≤ _
    rw [ofQ_len, qlen_neg]
    have : qlen (applX (inv0 t) t.e.v t.f.v) ≤ 5 * (5 * n + 1) + 7 := m1.2
    omega
  · show (ofQ (-(applY (inv0 t) t.e.v t.f.v))).len ≤ _
    rw [ofQ_len, qlen_neg]
    have : qlen (applY (inv0 t) t.e.v t.f.v) ≤ 5 * (5 * n + 1) + 7 := m2.2
    omega

theorem a_by (x d : BR) (hx : x.len ≤ 1000000) (hd : d.len ≤ 1000000) (h0 : d.v ≠ 0) : CallsG Tryz.prog 135 [.agg (brE x), .ptr (brE d)] [] (.agg (brE (ofQ (x.v / d.v)))) [] := by
  refine calls_to tok mix Tryz.func135 rfl rfl rfl ?_
  refine CallV.to _ (q_quo x d (by omega) (by omega) h0) rfl ?_
  exact .refl

set_option maxRecDepth 100000 in
set_option maxHeartbeats 4000000 in
theorem a_invert (t : AF) (ht : t.le 100) : CallsG Tryz.prog 89 [.agg (afE t)] [] (.tup [.agg (afE (invR t).1), i64 (invR t).2]) [] := by
  have bad : ∀ n, invR t = (zeroAF, n) → LE (.tup [.agg zero24, i64 n]) (.tup [.agg (afE (invR t).1), i64 (invR t).2]) := fun n h => by
    rw [h]; exact LE_tup2 LE_zero24 .refl
  have hd' := det_len t ht (by decide)
  refine calls_to tok mix Tryz.func89 rfl rfl rfl ?_
  refine CallV.to _ (a_valid t (ht.up (by decide))) rfl ?_
  refine Br.mk (fun h => bad 5 (if_pos h)) (fun h1 => ?_)
  refine CallV.to _ (a_det t (ht.up (by decide))) rfl ?_
  refine Dr.mk (by decide +kernel) ?_
  refine CallV.to _ (q_fromint 0 (by decide)) rfl ?_
  refine CallV.to _ (q_cmp (ofQ (detQ t)) (ofQ ((0 : Int) : Rat)) (by rw [ofQ_len]; omega) (by decide +kernel)) rfl ?_
  rw [ofQ_v, ofQ_v]
  refine Br.mk (fun h => bad 9 ((if_neg h1).trans (if_pos (cmpQ_zero.1 h)))) (fun h => ?_)
  have h0 : detQ t ≠ 0 := fun k => h (cmpQ_zero.2 k)
  have hi := inv0_le ht (by decide) h0
  have hA := invA_le ht (by decide) h0
  have ht' := ht
  obtain ⟨ha, hb, hc, hd, he, hf⟩ := ht
  have hdv : (ofQ (detQ t)).v ≠ 0 := by rw [ofQ_v]; exact h0
  have lb := qlen_v t.b
  have lc := qlen_v t.c
  have nb := qlen_neg t.b.v
  have nc := qlen_neg t.c.v
  refine Dr.mk (by decide +kernel) ?_
  refine CallV.to _ (a_by t.d (ofQ (detQ t)) (by omega) (by rw [ofQ_len]; omega) hdv) rfl ?_
  refine CallV.to _ (q_neg t.b (by omega)) rfl ?_
  refine CallV.to _ (a_by (ofQ (-t.b.v)) (ofQ (detQ t)) (by rw [ofQ_len]; omega) (by rw [ofQ_len]; omega) hdv) rfl ?_
  refine CallV.to _ (q_neg t.c (by omega)) rfl ?_
  refine CallV.to _ (a_by (ofQ (-t.c.v)) (ofQ (detQ t)) (by rw [ofQ_len]; omega) (by rw [ofQ_len]; omega) hdv) rfl ?_
  refine CallV.to _ (a_by t.a (ofQ (detQ t)) (by omega) (by rw [ofQ_len]; omega) hdv) rfl ?_
  rw [ofQ_v, ofQ_v, ofQ_v]
  have h24 : LEs (brE (inv0 t).a ++ (brE (inv0 t).b ++ (brE (inv0 t).c ++ (brE (inv0 t).d ++ (z4 ++ z4))))) (afE (inv0 t)) :=
    LEs.append .refl (LEs.append .refl (LEs.append .refl (LEs.append .refl (LEs.append LE_zBR LE_zBR))))
  have mX := qlen_twos (n := 501) (inv0 t).a t.e (inv0 t).c t.f (inv0 t).e hi.1 (by omega) hi.2.2.1 (by omega) hi.2.2.2.2.1
  have mY := qlen_twos (n := 501) (inv0 t).b t.e (inv0 t).d t.f (inv0 t).f hi.2.1 (by omega) hi.2.2.2.1 (by omega) hi.2.2.2.2.2
  have mX2 : qlen (applX (inv0 t) t.e.v t.f.v) ≤ 5 * 501 + 7 := mX.2
  have mY2 : qlen (applY (inv0 t) t.e.v t.f.v) ≤ 5 * 501 + 7 := mY.2
  refine CallV.to _ ((a_exact (inv0 t) t.e t.f (hi.up (by decide)) (by omega) (by omega)).args (.cons (LE_agg h24) (.cons .refl (.cons .refl .nil)))) rfl ?_
  refine Dr.mk (by decide +kernel) ?_
  refine CallV.to _ (q_neg (ofQ (applX (inv0 t) t.e.v t.f.v)) (by rw [ofQ_len]; omega)) rfl ?_
  refine CallV.to _ (q_neg (ofQ (applY (inv0 t) t.e.v t.f.v)) (by rw [ofQ_len]; omega)) rfl ?_
  rw [ofQ_v, ofQ_v]
  refine CallV.to _ (a_valid (invA t) (hA.up (by decide))) rfl ?_
  refine Br.mk (fun h => bad 5 ((if_neg h1).trans ((if_neg h0).trans (if_pos h)))) (fun h => ?_)
  refine CallV.to _ (a_normalize (invA t) (hA.up (by decide))) rfl ?_
  rw [invA_nrm, show invR t = (invA t, 0) from (if_neg h1).trans ((if_neg h0).trans (if_neg h))]
  exact LE_tup2 .refl .refl

theorem r12_quotient (x d : BR) (hx : x.len ≤ 1000000) (hd : d.len ≤ 1000000) (h0 : d.v ≠ 0) : CallsG Tryz.prog 204 [.agg (brE x), .agg (brE d)] [] (.agg (brE (ofQ (x.v / d.v)))) [] := by
  refine calls_to tok mix Tryz.func204 rfl rfl rfl ?_
  refine CallV.to _ (r3_quo x d (by omega) (by omega) h0) rfl ?_
  exact .refl

theorem neg_div (x y : Rat) : -(x / y) = -x / y := by rw [Rat.div_def, Rat.div_def, Rat.neg_mul]
set_option maxRecDepth 100000 in
set_option maxHeartbeats 4000000 in
theorem r12_invert (t : AF) (ht : t.le 100) : CallsG Tryz.prog 147 [.agg (afE t)] [] (.tup [.agg (afE (invR t).1), i64 (invR t).2]) [] := by
  have bad : ∀ n, invR t = (zeroAF, n) → LE (.tup [.agg zero24, i64 n]) (.tup [.agg (afE (invR t).1), i64 (invR t).2]) := fun n h => by
    rw [h]; exact LE_tup2 LE_zero24 .refl
  have hd' := det_len t ht (by decide)
  refine calls_to tok mix Tryz.func147 rfl rfl rfl ?_
  refine CallV.to _ (r12_valid t (ht.up (by decide))) rfl ?_
  refine Br.mk (fun h => bad 5 (if_pos h)) (fun h1 => ?_)
  refine CallV.to _ (r12_det t (ht.up (by decide))) rfl ?_
  refine Dr.mk (by decide +kernel) ?_
  refine CallV.to _ (r3_fromInt 0 (by decide)) rfl ?_
  refine CallV.to _ (r3_cmp (ofQ (detQ t)) (ofQ ((0 : Int) : Rat)) (by rw [ofQ_len]; omega) (by decide +kernel)) rfl ?_
  rw [ofQ_v, ofQ_v]
  refine Br.mk (fun h => bad 9 ((if_neg h1).trans (if_pos (cmpQ_zero.1 h)))) (fun h => ?_)
  have h0 : detQ t ≠ 0 := fun k => h (cmpQ_zero.2 k)
  have hi := inv0_le ht (by decide) h0
  have hA := invA_le ht (by decide) h0
  obtain ⟨ha, hb, hc, hd, he, hf⟩ := ht
  obtain ⟨ia, ib, ic, id, ie, if'⟩ := hi
  have hdv : (ofQ (detQ t)).v ≠ 0 := by rw [ofQ_v]; exact h0
  have lb := qlen_v t.b
  have lc := qlen_v t.c
  have qb := qlen_div t.b.v (detQ t) h0
  have qc := qlen_div t.c.v (detQ t) h0
  refine Dr.mk (by decide +kernel) ?_
  refine CallV.to _ (r12_quotient t.d (ofQ (detQ t)) (by omega) (by rw [ofQ_len]; omega) hdv) rfl ?_
  refine CallV.to _ (r12_quotient t.b (ofQ (detQ t)) (by omega) (by rw [ofQ_len]; omega) hdv) rfl ?_
  rw [ofQ_v]
  refine CallV.to _ (r3_neg (ofQ (t.b.v / detQ t)) (by rw [ofQ_len]; omega)) rfl ?_
  refine CallV.to _ (r12_quotient t.c (ofQ (detQ t)) (by omega) (by rw [ofQ_len]; omega) hdv) rfl ?_
  rw [ofQ_v, ofQ_v]
  refine CallV.to _ (r3_neg (ofQ (t.c.v / detQ t)) (by rw [ofQ_len]; omega)) rfl ?_
  refine CallV.to _ (r12_quotient t.a (ofQ (detQ t)) (by omega) (by rw [ofQ_len]; omega) hdv) rfl ?_
  rw [ofQ_v, ofQ_v, neg_div, neg_div]
  have eX : applX (inv0 t) t.e.v t.f.v = (inv0 t).a.v * t.e.v + (inv0 t).c.v * t.f.v := by
    unfold applX; rw [show (inv0 t).e.v = 0 from zBR_v, Rat.add_zero]
  have eY : applY (inv0 t) t.e.v t.f.v = (inv0 t).b.v * t.e.v + (inv0 t).d.v * t.f.v := by
    unfold applY; rw [show (inv0 t).f.v = 0 from zBR_v, Rat.add_zero]
  have mX := qlen_twos (n := 501) (inv0 t).a t.e (inv0 t).c t.f (inv0 t).e ia (by omega) ic (by omega) ie
  have mY := qlen_twos (n := 501) (inv0 t).b t.e (inv0 t).d t.f (inv0 t).f ib (by omega) id (by omega) if'
  refine CallV.to _ (r12_dot (inv0 t).a t.e (inv0 t).c t.f (by omega) (by omega) (by omega) (by omega)) rfl ?_
  rw [← eX]
  refine CallV.to _ (r3_neg (ofQ (applX (inv0 t) t.e.v t.f.v)) (by rw [ofQ_len, eX]; omega)) rfl ?_
  refine CallV.to _ (r12_dot (inv0 t).b t.e (inv0 t).d t.f (by omega) (by omega) (by omega) (by omega)) rfl ?_
  rw [← eY]
  refine CallV.to _ (r3_neg (ofQ (applY (inv0 t) t.e.v t.f.v)) (by rw [ofQ_len, eY]; omega)) rfl ?_
  rw [ofQ_v, ofQ_v]
  refine CallV.to _ (r12_valid (invA t) (hA.up (by decide))) rfl ?_
  refine Br.mk (fun h => bad 5 ((if_neg h1).trans ((if_neg h0).trans (if_pos h)))) (fun h => ?_)
  rw [show invR t = (invA t, 0) from (if_neg h1).trans ((if_neg h0).trans (if_neg h))]
  exact LE_tup2 .refl .refl

end Go.Gs
/- Numbers held in a range. -/
namespace Go.Gs
open Go.Proofs

def clampI (n lo hi : Int) : Int := if n < lo then lo else if hi < n then hi else n
theorem c_clamp (n lo hi : Int) : CallsG Tryz.prog 166 [i64 n, i64 lo, i64 hi] [] (i64 (clampI n lo hi)) [] := by
  refine calls_to tok mix Tryz.func166 rfl rfl rfl ?_
  refine Br.mk (fun h => ?_) (fun h => ?_)
  · exact LE_int (by simp [clampI, h])
  refine Br.mk (fun h2 => ?_) (fun h2 => ?_)
  · exact LE_int (by simp [clampI, h, h2])
  · exact LE_int (by simp [clampI, h, h2])

theorem clamp_eq {n lo hi : Int} (_ : lo ≤ hi) : clampI n lo hi = n ↔ lo ≤ n ∧ n ≤ hi := by
  unfold clampI; split <;> (try split) <;> omega

end Go.Gs
/- The wrapped place of a row: two texts, one answer. -/
namespace Go.Gs
open Go.Proofs

def wrapI (i n m : Int) : Int × Bool :=
  if n < 1 then (0, false) else if 0 ≤ i ∧ i < n then (i, true) else if m = 1 then (clampI i 0 (n - 1), true) else if m = 2 then (i % n, true)
  else if m = 3 then ((if i / n % 2 = 1 then n - 1 - i % n else i % n), true) else (0, false)

theorem c_mod (i n : Int) (hn : R64 n) (h1 : 1 ≤ n) : CallsG Tryz.prog 67 [i64 i, i64 n] [] (i64 (i % n)) [] := by
  refine calls_to tok mix Tryz.func67 rfl rfl rfl ?_
  have ht := tdm (m := i) (n := n) (by omega)
  refine Br.mk (fun h => ?_) (fun h => ?_)
  · omega
  refine Dv.any (by omega) ?_
  refine Br.mk (fun h2 => ?_) (fun h2 => ?_)
  · refine Ar.fit (by omega) ?_
    exact LE_int (by omega)
  · exact LE_int (by omega)

theorem c_mod' (i n : Int) (hn : R64 n) (h1 : 1 ≤ n) : CallsG Tryz.prog 69 [i64 i, i64 n] [] (i64 (i % n)) [] := by
  refine calls_to tok mix Tryz.func69 rfl rfl rfl ?_
  have ht := tdm (m := i) (n := n) (by omega)
  refine Br.mk (fun h => ?_) (fun h => ?_)
  · omega
  refine Dv.any (by omega) ?_
  refine Br.mk (fun h2 => ?_) (fun h2 => ?_)
  · refine Ar.fit (by omega) ?_
    exact LE_int (by omega)
  · exact LE_int (by omega)

theorem c_mirrored (i n : Int) (hi : R64 i) (hn : R64 n) (h1 : 1 ≤ n) : CallsG Tryz.prog 301 [i64 i, i64 n] [] (pr (i / n % 2 = 1)) [] := by
  refine calls_to tok mix Tryz.func301 rfl rfl rfl ?_
  have ht := tdm (m := i) (n := n) (by omega)
  have hr := tdiv_range (m := i) (n := n) (by omega) hi
  have e1 := tm2 (i.tdiv n)
  have e2 := tm2 (i.tdiv n - 1)
  refine Dv.any (by omega) ?_
  refine Ar.fit (by omega) ?_
  refine Br.mk (fun h => ?_) (fun h => ?_)
  · refine Dv.any (by omega) ?_
    refine Br.mk (fun h2 => ?_) (fun h2 => ?_)
    · refine Ar.fit (by omega) ?_
      refine Dv.any (by omega) ?_
      exact LE_pr (by omega)
    · refine Dv.any (by omega) ?_
      exact LE_pr (by omega)
  · refine Dv.any (by omega) ?_
    exact LE_pr (by omega)

theorem c_wrap (i n m : Int) (hi : R64 i) (hn : R64 n) : CallsG Tryz.prog 349 [i64 i, i64 n, i64 m] [] (.tup [i64 (wrapI i n m).1, pr ((wrapI i n m).2 = true)]) [] := by
  refine calls_to tok mix Tryz.func349 rfl rfl rfl ?_
  have fin : ∀ {σ : SV} {q : Int × Bool}, wrapI i n m = q → LE σ (.tup [i64 q.1, bl q.2]) → LE σ (.tup [i64 (wrapI i n m).1, pr ((wrapI i n m).2 = true)]) := fun e h => h.trans (by rw [e]; exact LE_tup2 .refl LE_blpr)
  refine Br.mk (fun h => ?_) (fun h => ?_)
  · exact fin (q := (0, false)) (by simp [wrapI, h]) .refl
  refine Br.mk (fun h2 => Br.mk (fun h3 => ?_) (fun h3 => ?_)) (fun h2 => ?_)
  · exact fin (q := (i, true)) (by simp [wrapI, h, h2, h3]) .refl
  all_goals
    have hne : ¬ (0 ≤ i ∧ i < n) := by omega
    have ht := tdm (m := i) (n := n) (by omega)
    have hr := tdiv_range (m := i) (n := n) (by omega) hi
    refine Br.mk (fun h4 => ?_) (fun h4 => ?_)
    · refine Ar.fit (by omega) ?_
      refine CallV.to _ (c_clamp i 0 (n - 1)) rfl ?_
      exact fin (q := (clampI i 0 (n - 1), true)) (by simp [wrapI, h, hne, h4]) .refl
    refine Br.mk (fun h5 => ?_) (fun h5 => ?_)
    · refine CallV.to _ (c_mod i n hn (by omega)) rfl ?_
      exact fin (q := (i % n, true)) (by simp [wrapI, h, hne, h5]) .refl
    refine Br.mk (fun h6 => ?_) (fun h6 => ?_)
    · refine Dr.mk (by decide +kernel) ?_
      refine CallV.to _ (c_mod i n hn (by omega)) rfl ?_
      refine Dv.any (by omega) ?_
      refine Ar.fit (by omega) ?_
      refine Dv.any (by omega) ?_
      have w3 : wrapI i n m = ((if i / n % 2 = 1 then n - 1 - i % n else i % n), true) := by simp [wrapI, h, hne, h6]
      refine Br.mk (fun h7 => ?_) (fun h7 => ?_)
      · refine Ar.fit (by omega) ?_
        refine ⟨_, rfl, ?_⟩
        refine Br.mk (fun h8 => ?_) (fun h8 => ?_)
        · rw [and_one] at h8
          refine Ar.fit (by omega) ?_
          refine Ar.fit (by omega) ?_
          exact fin w3 (LE_tup2 (LE_int (by rw [if_pos (by omega)])) .refl)
        · rw [and_one] at h8
          exact fin w3 (LE_tup2 (LE_int (by rw [if_neg (by omega)])) .refl)
      · refine ⟨_, rfl, ?_⟩
        refine Br.mk (fun h8 => ?_) (fun h8 => ?_)
        · rw [and_one] at h8
          refine Ar.fit (by omega) ?_
          refine Ar.fit (by omega) ?_
          exact fin w3 (LE_tup2 (LE_int (by rw [if_pos (by omega)])) .refl)
        · rw [and_one] at h8
          exact fin w3 (LE_tup2 (LE_int (by rw [if_neg (by omega)])) .refl)
    · exact fin (q := (0, false)) (by simp [wrapI, h, hne, h4, h5, h6]) .refl

theorem c_wrap' (i n m : Int) (hi : R64 i) (hn : R64 n) : CallsG Tryz.prog 270 [i64 i, i64 n, i64 m] [] (.tup [i64 (wrapI i n m).1, pr ((wrapI i n m).2 = true)]) [] := by
  refine calls_to tok mix Tryz.func270 rfl rfl rfl ?_
  have fin : ∀ {σ : SV} {q : Int × Bool}, wrapI i n m = q → LE σ (.tup [i64 q.1, bl q.2]) → LE σ (.tup [i64 (wrapI i n m).1, pr ((wrapI i n m).2 = true)]) := fun e h => h.trans (by rw [e]; exact LE_tup2 .refl LE_blpr)
  refine Br.mk (fun h => ?_) (fun h => ?_)
  · exact fin (q := (0, false)) (by simp [wrapI, h]) .refl
  refine Br.mk (fun h2 => Br.mk (fun h3 => ?_) (fun h3 => ?_)) (fun h2 => ?_)
  · exact fin (q := (i, true)) (by simp [wrapI, h, h2, h3]) .refl
  all_goals
    have hne : ¬ (0 ≤ i ∧ i < n) := by omega
    have hem := Int.emod_nonneg i (show n ≠ 0 by omega)
    have hem2 := Int.emod_lt_of_pos i (show 0 < n by omega)
    refine Br.mk (fun h4 => ?_) (fun h4 => ?_)
    · refine Ar.fit (by omega) ?_
      refine fin (q := (clampI i 0 (n - 1), true)) (by simp [wrapI, h, hne, h4]) (LE_tup2 (LE_int ?_) .refl)
      simp only [clampI, maxL, minL]
      split <;> (try split) <;> omega
    refine Br.mk (fun h5 => ?_) (fun h5 => ?_)
    · refine CallV.to _ (c_mod' i n hn (by omega)) rfl ?_
      exact fin (q := (i % n, true)) (by simp [wrapI, h, hne, h5]) .refl
    refine Br.mk (fun h6 => ?_) (fun h6 => ?_)
    · have w3 : wrapI i n m = ((if i / n % 2 = 1 then n - 1 - i % n else i % n), true) := by simp [wrapI, h, hne, h6]
      refine CallV.to _ (c_mirrored i n hi hn (by omega)) rfl ?_
      refine Br.mk (fun h7 => ?_) (fun h7 => ?_)
      · refine Ar.fit (by omega) ?_
        refine CallV.to _ (c_mod' i n hn (by omega)) rfl ?_
        refine Ar.fit (by omega) ?_
        exact fin w3 (LE_tup2 (LE_int (by rw [if_pos h7])) .refl)
      · refine CallV.to _ (c_mod' i n hn (by omega)) rfl ?_
        exact fin w3 (LE_tup2 (LE_int (by rw [if_neg h7])) .refl)
    · exact fin (q := (0, false)) (by simp [wrapI, h, hne, h4, h5, h6]) .refl

end Go.Gs
/- Pixels and pictures that may be. -/
namespace Go.Gs
open Go.Proofs

structure Pix where
  r : Int
  g : Int
  b : Int
  a : Int
  deriving DecidableEq
def pixE (p : Pix) : List SV := [u8 p.r, u8 p.g, u8 p.b, u8 p.a]
structure Img where
  w : Int
  h : Int
  px : List Pix
  deriving DecidableEq
def imgE (m : Img) : List SV := [i64 m.w, i64 m.h, .sl pixE m.px]
def pxOK (p : Pix) : Prop := p.r ≤ p.a ∧ p.g ≤ p.a ∧ p.b ≤ p.a
instance (p : Pix) : Decidable (pxOK p) := inferInstanceAs (Decidable (_ ∧ _))
def imgOK (m : Img) : Prop := (1 ≤ m.w ∧ m.w ≤ 4096) ∧ (1 ≤ m.h ∧ m.h ≤ 4096) ∧ m.w * m.h ≤ 65536 ∧ (m.px.length : Int) = m.w * m.h ∧ ∀ p ∈ m.px, pxOK p
instance (m : Img) : Decidable (imgOK m) := inferInstanceAs (Decidable (_ ∧ _))
theorem pixE_len : ∀ p : Pix, (pixE p).length = 4 := fun _ => rfl

theorem c_clamp1 (x r g b a : Int) : CallsG Tryz.prog 155 [u8 x, .ptr [u8 r, u8 g, u8 b, u8 a]] [] (u8 (min x a)) [] := by
  refine calls_to tok mix Tryz.func155 rfl rfl rfl ?_
  exact LE_int rfl

theorem c_each (p : Pix) (r g b a : Int) : CallsG Tryz.prog 111 [.agg (pixE p), .fn 155 [.ptr [u8 r, u8 g, u8 b, u8 a]]] [] (.agg [u8 (min p.r a), u8 (min p.g a), u8 (min p.b a), u8 (min p.a a)]) [] := by
  refine calls_to tok mix Tryz.func111 rfl rfl rfl ?_
  refine Dr.mk (by decide +kernel) ?_
  refine CallV.to _ (c_clamp1 _ r g b a) rfl ?_
  refine CallV.to _ (c_clamp1 _ r g b a) rfl ?_
  refine CallV.to _ (c_clamp1 _ r g b a) rfl ?_
  refine CallV.to _ (c_clamp1 _ r g b a) rfl ?_
  exact .refl

theorem c_pclamp (p : Pix) : CallsG Tryz.prog 95 [.agg (pixE p)] [] (.agg [u8 (min p.r p.a), u8 (min p.g p.a), u8 (min p.b p.a), u8 (min p.a p.a)]) [] := by
  refine calls_to tok mix Tryz.func95 rfl rfl rfl ?_
  refine CallV.to _ (c_each p p.r p.g p.b p.a) rfl ?_
  exact .refl

theorem c_pvalid (p : Pix) : CallsG Tryz.prog 79 [.agg (pixE p)] [] (pr (pxOK p)) [] := by
  refine calls_to tok mix Tryz.func79 rfl rfl rfl ?_
  refine Dr.mk (by decide +kernel) ?_
  refine CallV.to _ (c_pclamp p) rfl ?_
  refine LE_pr (p := min p.r p.a = p.r ∧ min p.g p.a = p.g ∧ min p.b p.a = p.b ∧ min p.a p.a = p.a ∧ True) ?_
  constructor
  · rintro ⟨h1, h2, h3, _⟩
    exact ⟨by omega, by omega, by omega⟩
  · rintro ⟨h1, h2, h3⟩
    exact ⟨by omega, by omega, by omega, by omega, trivial⟩

theorem c_pvalid2 (p : Pix) : CallsG Tryz.prog 101 [.agg (pixE p)] [] (pr (¬ pxOK p)) [] := by
  refine calls_to tok mix Tryz.func101 rfl rfl rfl ?_
  refine CallV.to _ (c_pvalid p) rfl ?_
  exact LE_pr Iff.rfl

def badIdx (xs : List Pix) : Int := match xs.findIdx? (fun p => decide (¬ pxOK p)) with
  | some i => i
  | none => -1

theorem badIdx_at {xs : List Pix} {i : Nat} {p : Pix} (h : ∀ (j : Nat) q, j < i → xs[j]? = some q → pxOK q) (hi : xs[i]? = some p) (hp : ¬ pxOK p) : badIdx xs = i := by
  have : xs.findIdx? (fun p => decide (¬ pxOK p)) = some i := by
    rw [List.findIdx?_eq_some_iff_getElem]
    obtain ⟨hl, he⟩ := List.getElem?_eq_some_iff.1 hi
    refine ⟨hl, by simp [he, hp], fun j hj => ?_⟩
    have := h j xs[j] hj (List.getElem?_eq_getElem _)
    simp [this]
  simp only [badIdx, this]

theorem badIdx_none {xs : List Pix} (h : ∀ p ∈ xs, pxOK p) : badIdx xs = -1 := by
  have : xs.findIdx? (fun p => decide (¬ pxOK p)) = none := by
    rw [List.findIdx?_eq_none_iff]
    intro p hp
    simp [h p hp]
  simp only [badIdx, this]

theorem badIdx_nonneg {xs : List Pix} : 0 ≤ badIdx xs ↔ ¬ ∀ p ∈ xs, pxOK p := by
  constructor
  · intro h hall
    rw [badIdx_none hall] at h; omega
  · intro h
    unfold badIdx
    split
    · omega
    · rename_i hn
      rw [List.findIdx?_eq_none_iff] at hn
      exact absurd (fun p hp => by simpa using hn p hp) h

theorem c_index (xs : List Pix) (hl : xs.length ≤ 9223372036854775807) : CallsG Tryz.prog 106 [.sl pixE xs, .fn 101 []] [] (i64 (badIdx xs)) [] := by
  refine calls_to tok mix Tryz.func106 rfl rfl rfl ?_
  intro hl0
  refine ⟨Int, fun i => ⟨[(8, i64 i), (7, i64 xs.length), (0, .sl pixE xs), (1, .fn 101 [])], [], 0, 19, 0⟩, fun i => 0 ≤ i ∧ i ≤ xs.length ∧ ∀ (j : Nat) q, (j : Int) < i → xs[j]? = some q → pxOK q, fun i => ((xs.length : Int) - i).toNat, 0, ?_, ?_, ?_⟩
  · exact ⟨by omega, by omega, fun j q hj => by omega⟩
  · exact sub_of [] rfl rfl rfl ⟨rfl, rfl, rfl, rfl, trivial⟩ trivial
  rintro i ⟨h1, h2, h3⟩
  refine Br.mk (fun h4 => ?_) (fun h4 => ?_)
  · refine Ob.mk (by omega) ?_
    intro x hx
    refine CallV.to _ (c_pvalid2 x) rfl ?_
    refine Br.mk (fun h5 => ?_) (fun h5 => ?_)
    · refine LE_int ?_
      rw [badIdx_at (i := i.toNat) (fun j q hj => h3 j q (by omega)) hx h5]; omega
    · refine Ar.fit (by omega) ?_
      refine ⟨i + 1, ⟨by omega, by omega, fun j q hj hq => ?_⟩, sub_of [] rfl rfl rfl ⟨rfl, rfl, rfl, rfl, trivial⟩ trivial, by dsimp only; omega⟩
      by_cases e : j = i.toNat
      · subst e; rw [hx] at hq; cases hq; exact Decidable.not_not.1 h5
      · exact h3 j q (by omega) hq
  · refine LE_int (badIdx_none fun p hp => ?_).symm
    obtain ⟨j, hj, he⟩ := List.getElem_of_mem hp
    exact h3 j p (by omega) (by rw [← he]; exact List.getElem?_eq_getElem hj)

theorem c_contains (xs : List Pix) (hl : xs.length ≤ 9223372036854775807) : CallsG Tryz.prog 77 [.sl pixE xs, .fn 101 []] [] (pr (¬ ∀ p ∈ xs, pxOK p)) [] := by
  refine calls_to tok mix Tryz.func77 rfl rfl rfl ?_
  refine CallV.to _ (c_index xs hl) rfl ?_
  exact LE_pr badIdx_nonneg

theorem c_may (n : Int) : CallsG Tryz.prog 100 [i64 n] [] (pr (1 ≤ n ∧ n ≤ 4096)) [] := by
  refine calls_to tok mix Tryz.func100 rfl rfl rfl ?_
  refine Br.mk (fun h => ?_) (fun h => ?_)
  · exact LE_pr (by omega)
  · exact LE_false (by omega)

theorem mul_r {a b A B : Int} (h1 : 0 ≤ a) (h2 : a ≤ A) (h3 : 0 ≤ b) (h4 : b ≤ B) : 0 ≤ a * b ∧ a * b ≤ A * B :=
  ⟨Int.mul_nonneg h1 h3, Int.mul_le_mul h2 h4 h3 (by omega)⟩

theorem c_valid (m : Img) (hl : m.px.length ≤ 9223372036854775807) : CallsG Tryz.prog 64 [.agg (imgE m)] [] (pr (imgOK m)) [] := by
  refine calls_to tok mix Tryz.func64 rfl rfl rfl ?_
  refine CallV.to _ (c_may m.w) rfl ?_
  refine Br.mk (fun h1 => ?_) (fun h1 => ?_)
  · exact LE_false (fun h => h1 h.1)
  have h1 := Decidable.not_not.1 h1
  refine CallV.to _ (c_may m.h) rfl ?_
  refine Br.mk (fun h2 => ?_) (fun h2 => ?_)
  · exact LE_false (fun h => h2 h.2.1)
  have h2 := Decidable.not_not.1 h2
  have hm := mul_r (show 0 ≤ m.w by omega) h1.2 (show 0 ≤ m.h by omega) h2.2
  refine Ar.fit (by omega) ?_
  refine Br.mk (fun h3 => ?_) (fun h3 => ?_)
  · exact LE_false (fun h => by have := h.2.2.1; omega)
  intro hl0
  refine Ar.fit (by omega) ?_
  refine Br.mk (fun h4 => ?_) (fun h4 => ?_)
  · exact LE_false (fun h => h4 h.2.2.2.1)
  refine CallV.to _ (c_contains m.px hl) rfl ?_
  refine LE_pr ?_
  exact ⟨fun h => ⟨h1, h2, by omega, Decidable.not_not.1 h4, Decidable.not_not.1 h⟩, fun h h' => h' h.2.2.2.2⟩

end Go.Gs
/- The example of the laws of pictures; the first law. -/
namespace Go.Gs
open Go.Proofs

end Go.Gs
