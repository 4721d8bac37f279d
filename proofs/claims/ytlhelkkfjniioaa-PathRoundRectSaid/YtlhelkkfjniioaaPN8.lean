/- Rounded division of machine integers: two texts, one answer. -/
import Derived.Test.YtlhelkkfjniioaaPN7
import Derived.Lib.Mul64
namespace Go.Gs
open Go.Proofs

theorem fitI_range (z : Int) : R64 (fitI z) := by
  unfold fitI; split
  · assumption
  · decide

theorem r8_muldiv (a b c : Int) (ha : R64 a) (hb : R64 b) (hc : R64 c) : CallsG Try.prog 87 [i64 a, i64 b, i64 c] []
    (.tup [i64 (fitI (rdiv (a * b) c)), pr (c ≠ 0 ∧ -9223372036854775808 ≤ rdiv (a * b) c ∧ rdiv (a * b) c ≤ 9223372036854775807)]) [] := by
  refine calls_to tok mix Try.func87 rfl rfl rfl ?_
  refine Br.mk (fun h => ?_) (fun h => ?_)
  · refine LE_tup2 (LE_int ?_) (LE_false fun h' => h'.1 h)
    subst h
    simp [rdiv, fitI]
  have l1 := zlen_i64 ha
  have l2 := zlen_i64 hb
  have l3 := zlen_i64 hc
  have l4 := zlen_mul a b
  unfold zlen at l1 l2 l3 l4
  refine CallV.to _ (r2_fromint a ha) rfl ?_
  refine CallV.to _ (r2_fromint b hb) rfl ?_
  refine CallV.to _ (r2_mul (ofZ a) (ofZ b) (by rw [ofZ_mag]; omega) (by rw [ofZ_mag]; omega)) rfl ?_
  rw [ofZ_v, ofZ_v]
  refine CallV.to _ (r2_fromint c hc) rfl ?_
  refine CallV.to _ (r2_divround (ofZ (a * b)) (ofZ c) (by rw [ofZ_mag]; omega) (by rw [ofZ_mag]; omega) (by rw [ofZ_v]; exact h)) rfl ?_
  rw [ofZ_v, ofZ_v]
  have l5 : (digs (rdiv (a * b) c).natAbs).length ≤ 6 := by
    refine digs_len (Nat.lt_of_le_of_lt (m := 2 * (a * b).natAbs + c.natAbs) ?_ ?_)
    · rw [rdiv_abs]; exact Nat.div_le_self _ _
    · have p1 := zlen_lt (z := a * b) (k := 4) (by unfold zlen; omega)
      have e4 : 4294967296 ^ 4 = 340282366920938463463374607431768211456 := by decide
      have e6 : 4294967296 ^ 6 = 6277101735386680763835789423207666416102355444464034512896 := by decide
      rw [e4] at p1
      rw [e6]; omega
  refine CallV.to _ (r2_toint (ofZ (rdiv (a * b) c)) (by rw [ofZ_mag]; omega)) rfl ?_
  rw [ofZ_v]
  exact LE_tup2 .refl (LE_pr ⟨fun g => ⟨h, g⟩, fun g => g.2⟩)

theorem r8_divround (a b : Int) (ha : R64 a) (hb : R64 b) : CallsG Try.prog 66 [i64 a, i64 b] [] (i64 (fitI (rdiv a b))) [] := by
  refine calls_to tok mix Try.func66 rfl rfl rfl ?_
  refine CallV.to _ (r8_muldiv a 1 b ha (by decide) hb) rfl ?_
  rw [Int.mul_one]
  exact .refl

/-! ### The program's -/
theorem c_size64 (n : Int) (hn : R64 n) : CallsG Try.prog 102 [i64 n] [] (u64 (n.natAbs : Nat)) [] := by
  refine calls_to tok mix Try.func102 rfl rfl rfl ?_
  refine Br.mk (fun h => ?_) (fun h => ?_)
  · refine Ar.wrap ?_
    refine Ar.wrap ?_
    exact LE_int (by rw [wrap64, wrap64]; omega)
  · refine Ar.fit (by omega) ?_
    exact LE_int (by omega)

theorem and32 (x : Nat) : bitsK .and .u64 x 4294967295 = ((x % 4294967296 : Nat) : Int) := by
  have e : (BitVec.ofInt 64 x &&& BitVec.ofInt 64 4294967295).toNat = x % 4294967296 := by
    rw [BitVec.toNat_and]
    have h1 : (BitVec.ofInt 64 4294967295).toNat = 2 ^ 32 - 1 := by decide
    rw [h1, Nat.and_two_pow_sub_one_eq_mod, BitVec.toNat_ofInt]
    rw [show (2 : Nat) ^ 32 = 4294967296 by decide]
    omega
  show IntKind.u64.wrap ((BitVec.ofInt 64 x &&& BitVec.ofInt 64 4294967295).toNat : Nat) = _
  rw [e, wrap64]; omega

theorem c_mul64 (x y : Nat) (hx : x < 18446744073709551616) (hy : y < 18446744073709551616) :
    CallsG Try.prog 101 [u64 x, u64 y] [] (.tup [u64 (x * y / 18446744073709551616 : Nat), u64 (x * y % 18446744073709551616 : Nat)]) [] := by
  refine calls_to tok mix Try.func101 rfl rfl rfl ?_
  obtain ⟨k1, k2, k3, k4⟩ := Go.Lib.mul64_hi x y hx hy
  have k0 : (x / 4294967296) * (y % 4294967296) ≤ (x / 4294967296) * (y % 4294967296) + (x % 4294967296) * (y % 4294967296) / 4294967296 := Nat.le_add_right _ _
  have k5 : x * y / 18446744073709551616 < 18446744073709551616 := by
    rw [Nat.div_lt_iff_lt_mul (by decide)]
    exact Nat.mul_lt_mul_of_lt_of_lt hx hy
  refine ⟨_, (and32 x).symm, ?_⟩
  refine Ob.mk (by decide) ?_
  refine ⟨_, (and32 y).symm, ?_⟩
  refine Ob.mk (by decide) ?_
  have ex : (x : Int) / 2 ^ 32 = ((x / 4294967296 : Nat) : Int) := by simp
  have ey : (y : Int) / 2 ^ 32 = ((y / 4294967296 : Nat) : Int) := by simp
  have hc := Go.Lib.half_mul_le (a := x % 4294967296) (b := y / 4294967296) (by omega) (by omega)
  have ha := Go.Lib.half_mul_le (a := x / 4294967296) (b := y / 4294967296) (by omega) (by omega)
  rw [ex, ey]
  generalize hx1 : x / 4294967296 = x1 at *
  generalize hx0 : x % 4294967296 = x0 at *
  generalize hy1 : y / 4294967296 = y1 at *
  generalize hy0 : y % 4294967296 = y0 at *
  refine Ar.fit (by omega) ?_
  refine Ar.fit (by omega) ?_
  refine Ob.mk (by decide) ?_
  have e1 : ((x0 : Int) * (y0 : Int)) / 2 ^ 32 = ((x0 * y0 / 4294967296 : Nat) : Int) := by simp
  rw [e1]
  generalize x0 * y0 / 4294967296 = w0 at *
  refine Ar.fit (by omega) ?_
  have e2 : (x1 : Int) * (y0 : Int) + (w0 : Int) = ((x1 * y0 + w0 : Nat) : Int) := by simp
  rw [e2]
  generalize x1 * y0 + w0 = t at *
  refine ⟨_, (and32 t).symm, ?_⟩
  refine Ob.mk (by decide) ?_
  have e3 : (t : Int) / 2 ^ 32 = ((t / 4294967296 : Nat) : Int) := by simp
  rw [e3]
  refine Ar.fit (by omega) ?_
  refine Ar.fit (by omega) ?_
  refine Ar.fit (by omega) ?_
  refine Ar.fit (by omega) ?_
  refine Ob.mk (by decide) ?_
  have e4 : (((t % 4294967296 : Nat) : Int) + (x0 : Int) * (y1 : Int)) / 2 ^ 32 = (((t % 4294967296 + x0 * y1) / 4294967296 : Nat) : Int) := by simp
  rw [e4]
  refine Ar.fit (by omega) ?_
  refine Ar.wrap ?_
  refine LE_tup2 (LE_int ?_) (LE_int ?_)
  · rw [← k4]; simp
  · rw [wrap64]; simp

theorem c_div64 (lo y : Nat) (hlo : lo < 18446744073709551616) (hy : y < 18446744073709551616) (h0 : y ≠ 0) :
    CallsG Try.prog 120 [u64 (0 : Nat), u64 lo, u64 y] [] (.tup [u64 (lo / y : Nat), u64 (lo % y : Nat)]) [] := by
  refine calls_to tok mix Try.func120 rfl rfl rfl ?_
  refine Br.mk (fun h => absurd h (by omega)) (fun _ => ?_)
  refine Br.mk (fun h => absurd h (by omega)) (fun _ => ?_)
  refine Br.mk (fun _ => ?_) (fun h => absurd rfl h)
  refine Dr.mk (by decide +kernel) ?_
  refine Dv.pos ⟨by omega, by omega, by show _ ≤ (18446744073709551615 : Int); omega⟩ ?_
  refine Dv.pos ⟨by omega, by omega⟩ ?_
  exact LE_tup2 (LE_int (by simp)) (LE_int (by simp))

/-- The quotient, rounded half up. -/
def rup (lo by_ : Nat) : Nat := (2 * lo + by_) / (2 * by_)
theorem rup_eq {lo y : Nat} (h0 : y ≠ 0) : rup lo y = if y ≤ 2 * (lo % y) then lo / y + 1 else lo / y := by
  unfold rup
  have e := Nat.div_add_mod lo y
  have hl := Nat.mod_lt lo (Nat.pos_of_ne_zero h0)
  generalize lo / y = q at *
  generalize lo % y = r at *
  subst e
  have p : 2 * (y * q + r) + y = 2 * y * q + (2 * r + y) := by rw [Nat.mul_add, Nat.mul_assoc]; omega
  rw [p, Nat.mul_add_div (by omega)]
  split
  · have : (2 * r + y) / (2 * y) = 1 := by
      rw [Nat.div_eq_iff (by omega)]; omega
    omega
  · have : (2 * r + y) / (2 * y) = 0 := Nat.div_eq_of_lt (by omega)
    omega

theorem c_near (lo y : Nat) (hlo : lo ≤ 9223372036854775808) (hy : y < 18446744073709551616) (h0 : y ≠ 0) :
    CallsG Try.prog 104 [.agg [u64 (0 : Nat), u64 lo, u64 y]] [] (.tup [u64 (rup lo y : Nat), bl true]) [] := by
  refine calls_to tok mix Try.func104 rfl rfl rfl ?_
  refine Br.mk (fun h => absurd h (by omega)) (fun _ => ?_)
  refine CallV.to _ (c_div64 lo y (by omega) hy h0) rfl ?_
  have hq := Nat.div_le_self lo y
  have hr := Nat.mod_lt lo (Nat.pos_of_ne_zero h0)
  have he := rup_eq (lo := lo) h0
  generalize rup lo y = u at *
  generalize lo / y = q at *
  generalize lo % y = r at *
  refine Ar.fit (by omega) ?_
  refine Br.mk (fun h => ?_) (fun h => ?_)
  · rw [if_pos (by omega)] at he
    refine Ar.fit (by omega) ?_
    exact LE_tup2 (LE_int (by omega)) (LE_yes (by omega))
  · rw [if_neg (by omega)] at he
    exact LE_tup2 (LE_int (by omega)) .refl

theorem c_signed (p : Prop) [i : Decidable p] (lo y : Nat) (hlo : lo ≤ 9223372036854775808) (hy : y < 18446744073709551616) (h0 : y ≠ 0) :
    CallsG Try.prog 103 [.pr p i, .val (.func (.func 104) #[.agg #[.int .u64 (0 : Nat), .int .u64 (lo : Nat), .int .u64 (y : Nat)]] #[])] []
      (.tup [i64 (fitI (if p then -(rup lo y : Int) else rup lo y)), pr (-9223372036854775808 ≤ (if p then -(rup lo y : Int) else rup lo y) ∧ (if p then -(rup lo y : Int) else rup lo y) ≤ 9223372036854775807)]) [] := by
  refine calls_to tok mix Try.func103 rfl rfl rfl ?_
  refine CallV.to _ (c_near lo y hlo hy h0) rfl ?_
  have hu : rup lo y < 18446744073709551616 := by
    rw [rup_eq h0]
    have := Nat.div_le_self lo y
    split <;> omega
  generalize rup lo y = u at *
  have bad : ∀ z : Int, ¬ (-9223372036854775808 ≤ z ∧ z ≤ 9223372036854775807) → LE (.tup [i64 0, bl false]) (.tup [i64 (fitI z), pr (-9223372036854775808 ≤ z ∧ z ≤ 9223372036854775807)]) := fun z h =>
    LE_tup2 (LE_int (by rw [fitI, if_neg h])) (LE_false h)
  have good : ∀ n z : Int, n = z → -9223372036854775808 ≤ z ∧ z ≤ 9223372036854775807 → LE (.tup [i64 n, bl true]) (.tup [i64 (fitI z), pr (-9223372036854775808 ≤ z ∧ z ≤ 9223372036854775807)]) := fun n z hn h =>
    LE_tup2 (LE_int (by rw [fitI, if_pos h, hn])) (LE_true h)
  refine Br.mk (fun h => bad _ (by split <;> omega)) (fun h => ?_)
  have tail : (u : Int) ≤ 9223372036854775808 → ((u : Int) = 9223372036854775808 → p) → IntKind.i64.wrap (IntKind.u64.wrap (-(u : Int))) = -(u : Int) ∧ (¬ p → (u : Int) ≤ 9223372036854775807) := fun g1 g2 => by
    refine ⟨?_, fun hp => ?_⟩
    · rw [wrap64]
      simp only [IntKind.wrap, IntKind.bits, IntKind.signed]
      simp
      omega
    · by_cases e : (u : Int) = 9223372036854775808
      · exact absurd (g2 e) hp
      · omega
  refine Br.mk (fun h1 => ?_) (fun h1 => ?_)
  · refine Br.mk (fun h2 => bad _ (by rw [if_neg h2]; omega)) (fun h2 => ?_)
    have hp := Decidable.not_not.1 h2
    obtain ⟨t1, t2⟩ := tail (by omega) (fun _ => hp)
    refine Br.mk (fun _ => ?_) (fun h3 => absurd hp h3)
    refine Ar.wrap ?_
    refine Ar.wrap ?_
    exact good _ _ (by rw [if_pos hp]; exact t1) (by rw [if_pos hp]; omega)
  · obtain ⟨t1, t2⟩ := tail (by omega) (fun h => absurd h h1)
    refine Br.mk (fun h3 => ?_) (fun h3 => ?_)
    · refine Ar.wrap ?_
      refine Ar.wrap ?_
      exact good _ _ (by rw [if_pos h3]; exact t1) (by rw [if_pos h3]; omega)
    · have := t2 h3
      refine Ar.fit (by omega) ?_
      exact good _ _ (by rw [if_neg h3]) (by rw [if_neg h3]; omega)

theorem rdiv_rup (a c : Int) : (if ¬ (¬ (a < 0 ↔ (1 : Int) < 0) ↔ c < 0) then -(rup a.natAbs c.natAbs : Int) else (rup a.natAbs c.natAbs : Int)) = rdiv a c := by
  unfold rdiv
  show _ = if a < 0 ↔ c < 0 then ((rup a.natAbs c.natAbs : Nat) : Int) else -((rup a.natAbs c.natAbs : Nat) : Int)
  generalize (rup a.natAbs c.natAbs : Int) = u
  by_cases h1 : a < 0 <;> by_cases h2 : c < 0 <;> simp [h1, h2]

theorem c_muldiv1 (a c : Int) (ha : R64 a) (hc : R64 c) : CallsG Try.prog 86 [i64 a, i64 1, i64 c] []
    (.tup [i64 (fitI (rdiv a c)), pr (c ≠ 0 ∧ -9223372036854775808 ≤ rdiv a c ∧ rdiv a c ≤ 9223372036854775807)]) [] := by
  refine calls_to tok mix Try.func86 rfl rfl rfl ?_
  refine Br.mk (fun h => ?_) (fun h => ?_)
  · refine LE_tup2 (LE_int ?_) (LE_false fun h' => h'.1 h)
    subst h
    simp [rdiv, fitI]
  refine CallV.to _ (c_size64 a ha) rfl ?_
  refine CallV.to _ (c_size64 1 (by decide)) rfl ?_
  refine CallV.to _ (c_mul64 a.natAbs (1 : Int).natAbs (by omega) (by omega)) rfl ?_
  rw [show (1 : Int).natAbs = 1 by rfl, Nat.mul_one, Nat.div_eq_of_lt (show a.natAbs < 18446744073709551616 by omega), Nat.mod_eq_of_lt (show a.natAbs < 18446744073709551616 by omega)]
  refine CallV.to _ (c_size64 c hc) rfl ?_
  refine CallV.to _ (c_signed (¬ (¬ (a < 0 ↔ (1 : Int) < 0) ↔ c < 0)) a.natAbs c.natAbs (by omega) (by omega) (by omega)) rfl ?_
  rw [rdiv_rup a c]
  exact LE_tup2 .refl (LE_pr ⟨fun g => ⟨h, g⟩, fun g => g.2⟩)

theorem c_divround (a b : Int) (ha : R64 a) (hb : R64 b) : CallsG Try.prog 62 [i64 a, i64 b] [] (i64 (fitI (rdiv a b))) [] := by
  refine calls_to tok mix Try.func62 rfl rfl rfl ?_
  refine CallV.to _ (c_muldiv1 a b ha hb) rfl ?_
  exact .refl

end Go.Gs
