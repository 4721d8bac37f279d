/- Rounded division, the other text. -/
import Derived.Test.YtlhelkkfjniioaaPN6
namespace Go.Gs
open Go.Proofs

theorem v_rdiv (a b : BI) (hb : b.v ≠ 0) : (if ¬ (a.neg = true ↔ b.neg = true) then -(((val a.mag + val a.mag + val b.mag) / (val b.mag + val b.mag) : Nat) : Int) else (((val a.mag + val a.mag + val b.mag) / (val b.mag + val b.mag) : Nat) : Int)) = rdiv a.v b.v := by
  unfold rdiv
  rw [BI.v_abs, BI.v_abs, Nat.two_mul, Nat.two_mul]
  by_cases h0 : val a.mag = 0
  · have e : (val a.mag + val a.mag + val b.mag) / (val b.mag + val b.mag) = 0 := by
      rw [h0]
      refine Nat.div_eq_of_lt ?_
      rcases b.v_eq with ⟨h1, h2⟩ | ⟨h1, h2⟩ <;> omega
    rw [e]; simp
  · generalize ((val a.mag + val a.mag + val b.mag) / (val b.mag + val b.mag)) = q
    have e : (a.neg = true ↔ b.neg = true) ↔ (a.v < 0 ↔ b.v < 0) := by
      rcases a.v_eq with ⟨h1, h2⟩ | ⟨h1, h2⟩ <;> rcases b.v_eq with ⟨h3, h4⟩ | ⟨h3, h4⟩ <;> simp only [h1, h3] <;> simp <;> omega
    by_cases h : (a.v < 0 ↔ b.v < 0)
    · rw [if_neg (not_not_intro (e.2 h)), if_pos h]
    · rw [if_pos (fun hh => h (e.1 hh)), if_neg h]

theorem dadd_len {a b : List Dig} {k : Nat} (ha : a.length ≤ k) (hb : b.length ≤ k) : (digs (val a + val b)).length ≤ k + 1 := by
  refine digs_len ?_
  have h1 := Nat.lt_of_lt_of_le (val_lt a) (Nat.pow_le_pow_right (show 0 < 4294967296 by decide) ha)
  have h2 := Nat.lt_of_lt_of_le (val_lt b) (Nat.pow_le_pow_right (show 0 < 4294967296 by decide) hb)
  rw [Nat.pow_succ]; omega

set_option maxRecDepth 100000 in
theorem r2_divround (a b : BI) (ha : a.mag.length ≤ 300000000) (hb : b.mag.length ≤ 300000000) (h0 : b.v ≠ 0) :
    CallsG Try.prog 105 [.agg (biE a), .agg (biE b)] [] (.tup [.agg (biE (ofZ (rdiv a.v b.v))), i64 0]) [] := by
  refine calls_to tok mix Try.func105 rfl rfl rfl ?_
  refine CallV.to _ (r2_sign b (by omega)) rfl ?_
  refine Br.mk (fun h => absurd (Int.sign_eq_zero_iff_zero.1 h) h0) (fun _ => ?_)
  refine Dr.mk (by decide +kernel) ?_
  have l1 := dadd_len ha ha
  have l2 := dadd_len hb hb
  have l3 := dadd_len l1 (show b.mag.length ≤ _ by omega)
  rw [val_digs] at l3
  have hbp : val b.mag + val b.mag ≠ 0 := by rcases b.v_eq with ⟨h1, h2⟩ | ⟨h1, h2⟩ <;> omega
  refine CallV.to _ (r1_addP a.mag a.mag (by omega) (by omega)) rfl ?_
  refine CallV.to _ (r1_addP _ b.mag (by omega) (by omega)) rfl ?_
  refine CallV.to _ (r1_addP b.mag b.mag (by omega) (by omega)) rfl ?_
  rw [val_digs]
  refine CallV.to _ (r1_divmod _ _ (by omega) (by omega) (by rw [val_digs]; exact hbp)) rfl ?_
  rw [val_digs, val_digs]
  have l4 : (digs ((val a.mag + val a.mag + val b.mag) / (val b.mag + val b.mag))).length ≤ 1000000000 := Nat.le_trans (digs_mono (Nat.div_le_self _ _)) (by omega)
  refine CallV.to _ (r2_new (¬ (a.neg = true ↔ b.neg = true)) _ l4) rfl ?_
  rw [val_digs, v_rdiv a b h0]
  exact .refl

theorem or_nat {x y : Nat} (hx : x < 18446744073709551616) (hy : y < 18446744073709551616) : bitsK .or .u64 x y = ((x ||| y : Nat) : Int) := by
  show IntKind.u64.wrap ((BitVec.ofInt 64 x ||| BitVec.ofInt 64 y).toNat : Nat) = _
  have h : x ||| y < 2 ^ 64 := Nat.or_lt_two_pow hx hy
  have e : (BitVec.ofInt 64 x ||| BitVec.ofInt 64 y).toNat = x ||| y := by
    rw [BitVec.toNat_or, BitVec.toNat_ofInt, BitVec.toNat_ofInt]
    congr 1
    · omega
    · omega
  rw [e, wrap64]; omega

/-- An integer of the machine, where it is one. -/
def fitI (z : Int) : Int := if -9223372036854775808 ≤ z ∧ z ≤ 9223372036854775807 then z else 0

set_option maxRecDepth 100000 in
theorem r2_toint (a : BI) (ha : a.mag.length ≤ 1000000000) :
    CallsG Try.prog 107 [.agg (biE a)] [] (.tup [i64 (fitI a.v), pr (-9223372036854775808 ≤ a.v ∧ a.v ≤ 9223372036854775807)]) [] := by
  refine calls_to tok mix Try.func107 rfl rfl rfl ?_
  refine CallV.to _ (r2_newv a ha) rfl ?_
  generalize a.v = z
  have bad : ¬ (-9223372036854775808 ≤ z ∧ z ≤ 9223372036854775807) → LE (.tup [i64 0, bl false]) (.tup [i64 (fitI z), pr (-9223372036854775808 ≤ z ∧ z ≤ 9223372036854775807)]) := fun h =>
    LE_tup2 (LE_int (by rw [fitI, if_neg h])) (LE_false h)
  refine ⟨Nat, fun i => ⟨[(6, i64 i), (5, u64 (val ((digs z.natAbs).take i))), (4, .loc 1 0)], [(1, .box 51 (biE (ofZ z))), (0, .box 51 (biE a))], 2, 51, 0⟩,
    fun i => i ≤ 2 ∧ i ≤ (digs z.natAbs).length, fun i => 2 - i, 0, ?_, ?_, ?_⟩
  · exact ⟨by omega, Nat.zero_le _⟩
  · exact sub_of [(0, some 0), (1, some 1)] rfl rfl rfl ⟨rfl, rfl, rfl, trivial⟩ ⟨rfl, rfl, trivial⟩
  rintro i ⟨h1, h2⟩
  intro hl
  refine Br.mk (fun h3 => ?_) (fun h3 => ?_)
  · have h3 : i < (digs z.natAbs).length := by rw [ofZ_mag] at h3; omega
    refine Br.mk (fun h4 => ?_) (fun h4 => ?_)
    · refine bad fun h5 => ?_
      have := digs_len (n := z.natAbs) (k := 2) (by rw [show 4294967296 ^ 2 = 18446744073709551616 by decide]; omega)
      omega
    · refine Ob.mk (by rw [ofZ_mag]; omega) ?_
      intro x hx
      have hx : (digs z.natAbs)[i]? = some x := hx
      have dx := dig_some hx
      have hxl := x.isLt
      have ht := val_take_lt (digs z.natAbs) i
      have hts := val_take_succ (digs z.natAbs) i
      rw [dx] at hts
      have key : ∀ n : Int, n = 32 * i → 0 ≤ n ∧ n < 64 ∧ 0 ≤ (x.val : Int) * 2 ^ n.toNat ∧ (x.val : Int) * 2 ^ n.toNat ≤ 18446744073709551615 ∧
          bitsK .or .u64 (val ((digs z.natAbs).take i)) ((x.val : Int) * 2 ^ n.toNat) = val ((digs z.natAbs).take (i + 1)) := fun n hn => by
        have : i = 0 ∨ i = 1 := by omega
        rcases this with rfl | rfl
        · have : n = 0 := by omega
          subst this
          rw [hts]
          have e := or_nat (x := 0) (y := x.val) (by omega) (by omega)
          have p : (x.val : Int) * 2 ^ (0 : Int).toNat = (x.val : Int) := by simp
          rw [p, val_take_zero]
          refine ⟨by omega, by omega, by omega, by omega, ?_⟩
          rw [e]; simp
        · have : n = 32 := by omega
          subst this
          rw [hts]
          have e := or_nat (x := val ((digs z.natAbs).take 1)) (y := 4294967296 * x.val) (by omega) (by omega)
          have e2 := Nat.two_pow_add_eq_or_of_lt (i := 32) (b := val ((digs z.natAbs).take 1)) (by rw [show 2 ^ 32 = 4294967296 by decide]; omega) x.val
          rw [show 2 ^ 32 = 4294967296 by decide] at e2
          have e3 : (x.val : Int) * 2 ^ (32 : Int).toNat = ((4294967296 * x.val : Nat) : Int) := by
            rw [show (32 : Int).toNat = 32 by decide]; simp only [Int.reducePow]; omega
          rw [e3]
          refine ⟨by omega, by omega, by omega, by omega, ?_⟩
          rw [e, Nat.or_comm, ← e2]
          omega
      obtain ⟨k1, k2, k3, k4, k5⟩ := key (32 * i) rfl
      refine Ar.fit (by omega) ?_
      refine Ar.fit (by omega) ?_
      refine Ar.fit (by omega) ?_
      refine Ob.mk ⟨k1, k2⟩ ?_
      refine Ar.fit ⟨k3, k4⟩ ?_
      refine ⟨_, k5.symm, ?_⟩
      refine Ar.fit (by omega) ?_
      exact ⟨i + 1, ⟨by omega, by omega⟩, sub_of [(0, some 0), (1, some 1)] rfl rfl rfl ⟨rfl, rfl, rfl, trivial⟩ ⟨rfl, rfl, trivial⟩, by dsimp only; omega⟩
  · have h4 : (digs z.natAbs).length = i := by rw [ofZ_mag] at h3; omega
    have e : val ((digs z.natAbs).take i) = z.natAbs := by rw [val_take_all (by omega), val_digs]
    have hz : z.natAbs < 18446744073709551616 := by
      have := val_take_lt (digs z.natAbs) i
      rw [e] at this
      refine Nat.lt_of_lt_of_le this (Nat.le_trans (Nat.pow_le_pow_right (by decide) h1) (by decide))
    have good : ∀ n : Int, n = z → -9223372036854775808 ≤ z ∧ z ≤ 9223372036854775807 → LE (.tup [i64 n, bl true]) (.tup [i64 (fitI z), pr (-9223372036854775808 ≤ z ∧ z ≤ 9223372036854775807)]) := fun n hn h =>
      LE_tup2 (LE_int (by rw [fitI, if_pos h, hn])) (LE_true h)
    have hn := ofZ_neg z
    refine Br.mk (fun g1 => ?_) (fun g1 => ?_)
    · rw [hn] at g1
      refine Br.mk (fun g2 => ?_) (fun g2 => ?_)
      · refine Ar.wrap ?_
        refine Ar.wrap ?_
        refine good _ ?_ (by omega)
        rw [e, wrap64]
        show IntKind.i64.wrap _ = _
        simp only [IntKind.wrap, IntKind.bits, IntKind.signed]
        simp
        omega
      · refine Br.mk (fun g3 => absurd (hn.2 g1) g3) (fun _ => bad (by omega))
    · refine Br.mk (fun g3 => ?_) (fun g3 => absurd (fun h => g1 h) g3)
      rw [hn] at g1
      refine Br.mk (fun g2 => ?_) (fun g2 => bad (by omega))
      refine Ar.fit (by omega) ?_
      exact good _ (by omega) (by omega)

end Go.Gs
