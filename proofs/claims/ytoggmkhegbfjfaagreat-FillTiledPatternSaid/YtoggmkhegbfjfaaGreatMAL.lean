/- Rounded division of machine integers: two texts, one answer. -/
import Derived.Test.YtoggmkhegbfjfaaGreatMAK
import Derived.Lib.Mul64
import Derived.Laws.MathBits
namespace Go.Gs
open Go.Proofs

theorem fitI_range (z : Int) : R64 (fitI z) := by
  unfold fitI; split
  · assumption
  · decide

theorem r8_muldiv (a b c : Int) (ha : R64 a) (hb : R64 b) (hc : R64 c) : CallsG Tryz.prog 292 [i64 a, i64 b, i64 c] []
    (.tup [i64 (fitI (rdiv (a * b) c)), pr (c ≠ 0 ∧ -9223372036854775808 ≤ rdiv (a * b) c ∧ rdiv (a * b) c ≤ 9223372036854775807)]) [] := by
  refine calls_to tok mix Tryz.func292 rfl rfl rfl ?_
  refine Br.mk (fun h => ?_) (fun h => ?_)
  · refine LE_tup2 (LE_int ?_) (LE_false fun h' => h'.1 h)
    subst h
    simp [rdiv, fitI]
  have l1 := zlen_i64 ha
  have l2 := zlen_i64 hb
  have l3 := zlen_i64 hc
  have l4 := zlen_mul a b
  unfold zlen at l1 l2 l3 l4
  refine CallV.to _ (r2_fromint a ha) rfl ?_
  refine CallV.to _ (r2_fromint b hb) rfl ?_
  refine CallV.to _ (r2_mul (ofZ a) (ofZ b) (by rw [ofZ_mag]; omega) (by rw [ofZ_mag]; omega)) rfl ?_
  rw [ofZ_v, ofZ_v]
  refine CallV.to _ (r2_fromint c hc) rfl ?_
  refine CallV.to _ (r2_divround (ofZ (a * b)) (ofZ c) (by rw [ofZ_mag]; omega) (by rw [ofZ_mag]; omega) (by rw [ofZ_v]; exact h)) rfl ?_
  rw [ofZ_v, ofZ_v]
  have l5 : (digs (rdiv (a * b) c).natAbs).length ≤ 6 := by
    refine digs_len (Nat.lt_of_le_of_lt (m := 2 * (a * b).natAbs + c.natAbs) ?_ ?_)
    · rw [rdiv_abs]; exact Nat.div_le_self _ _
    · have p1 := zlen_lt (z := a * b) (k := 4) (by unfold zlen; omega)
      have e4 : 4294967296 ^ 4 = 340282366920938463463374607431768211456 := by decide
      have e6 : 4294967296 ^ 6 = 6277101735386680763835789423207666416102355444464034512896 := by decide
      rw [e4] at p1
      rw [e6]; omega
  refine CallV.to _ (r2_toint (ofZ (rdiv (a * b) c)) (by rw [ofZ_mag]; omega)) rfl ?_
  rw [ofZ_v]
  exact LE_tup2 .refl (LE_pr ⟨fun g => ⟨h, g⟩, fun g => g.2⟩)

theorem r8_divround (a b : Int) (ha : R64 a) (hb : R64 b) : CallsG Tryz.prog 252 [i64 a, i64 b] [] (i64 (fitI (rdiv a b))) [] := by
  refine calls_to tok mix Tryz.func252 rfl rfl rfl ?_
  refine CallV.to _ (r8_muldiv a 1 b ha (by decide) hb) rfl ?_
  rw [Int.mul_one]
  exact .refl

/-! ### The program's -/
theorem c_size64 (n : Int) (hn : R64 n) : CallsG Tryz.prog 278 [i64 n] [] (u64 (n.natAbs : Nat)) [] := by
  refine calls_to tok mix Tryz.func278 rfl rfl rfl ?_
  refine Br.mk (fun h => ?_) (fun h => ?_)
  · refine Ar.wrap ?_
    refine Ar.wrap ?_
    exact LE_int (by rw [wrap64, wrap64]; omega)
  · refine Ar.fit (by omega) ?_
    exact LE_int (by omega)

theorem and32 (x : Nat) : bitsK .and .u64 x 4294967295 = ((x % 4294967296 : Nat) : Int) := by
  have e : (BitVec.ofInt 64 x &&& BitVec.ofInt 64 4294967295).toNat = x % 4294967296 := by
    rw [BitVec.toNat_and]
    have h1 : (BitVec.ofInt 64 4294967295).toNat = 2 ^ 32 - 1 := by decide
    rw [h1, Nat.and_two_pow_sub_one_eq_mod, BitVec.toNat_ofInt]
    rw [show (2 : Nat) ^ 32 = 4294967296 by decide]
    omega
  show IntKind.u64.wrap ((BitVec.ofInt 64 x &&& BitVec.ofInt 64 4294967295).toNat : Nat) = _
  rw [e, wrap64]; omega

theorem c_mul64 (x y : Nat) (hx : x < 18446744073709551616) (hy : y < 18446744073709551616) :
    CallsG Tryz.prog 277 [u64 x, u64 y] [] (.tup [u64 (x * y / 18446744073709551616 : Nat), u64 (x * y % 18446744073709551616 : Nat)]) [] := by
  refine calls_to tok mix Tryz.func277 rfl rfl rfl ?_
  obtain ⟨k1, k2, k3, k4⟩ := Go.Lib.mul64_hi x y hx hy
  have k0 : (x / 4294967296) * (y % 4294967296) ≤ (x / 4294967296) * (y % 4294967296) + (x % 4294967296) * (y % 4294967296) / 4294967296 := Nat.le_add_right _ _
  have k5 : x * y / 18446744073709551616 < 18446744073709551616 := by
    rw [Nat.div_lt_iff_lt_mul (by decide)]
    exact Nat.mul_lt_mul_of_lt_of_lt hx hy
  refine ⟨_, (and32 x).symm, ?_⟩
  refine Ob.mk (by decide) ?_
  refine ⟨_, (and32 y).symm, ?_⟩
  refine Ob.mk (by decide) ?_
  have ex : (x : Int) / 2 ^ 32 = ((x / 4294967296 : Nat) : Int) := by simp
  have ey : (y : Int) / 2 ^ 32 = ((y / 4294967296 : Nat) : Int) := by simp
  have hc := Go.Lib.half_mul_le (a := x % 4294967296) (b := y / 4294967296) (by omega) (by omega)
  have ha := Go.Lib.half_mul_le (a := x / 4294967296) (b := y / 4294967296) (by omega) (by omega)
  rw [ex, ey]
  generalize hx1 : x / 4294967296 = x1 at *
  generalize hx0 : x % 4294967296 = x0 at *
  generalize hy1 : y / 4294967296 = y1 at *
  generalize hy0 : y % 4294967296 = y0 at *
  refine Ar.fit (by omega) ?_
  refine Ar.fit (by omega) ?_
  refine Ob.mk (by decide) ?_
  have e1 : ((x0 : Int) * (y0 : Int)) / 2 ^ 32 = ((x0 * y0 / 4294967296 : Nat) : Int) := by simp
  rw [e1]
  generalize x0 * y0 / 4294967296 = w0 at *
  refine Ar.fit (by omega) ?_
  have e2 : (x1 : Int) * (y0 : Int) + (w0 : Int) = ((x1 * y0 + w0 : Nat) : Int) := by simp
  rw [e2]
  generalize x1 * y0 + w0 = t at *
  refine ⟨_, (and32 t).symm, ?_⟩
  refine Ob.mk (by decide) ?_
  have e3 : (t : Int) / 2 ^ 32 = ((t / 4294967296 : Nat) : Int) := by simp
  rw [e3]
  refine Ar.fit (by omega) ?_
  refine Ar.fit (by omega) ?_
  refine Ar.fit (by omega) ?_
  refine Ar.fit (by omega) ?_
  refine Ob.mk (by decide) ?_
  have e4 : (((t % 4294967296 : Nat) : Int) + (x0 : Int) * (y1 : Int)) / 2 ^ 32 = (((t % 4294967296 + x0 * y1) / 4294967296 : Nat) : Int) := by simp
  rw [e4]
  refine Ar.fit (by omega) ?_
  refine Ar.wrap ?_
  refine LE_tup2 (LE_int ?_) (LE_int ?_)
  · rw [← k4]; simp
  · rw [wrap64]; simp

theorem c_div64 (lo y : Nat) (hlo : lo < 18446744073709551616) (hy : y < 18446744073709551616) (h0 : y ≠ 0) :
    CallsG Tryz.prog 304 [u64 (0 : Nat), u64 lo, u64 y] [] (.tup [u64 (lo / y : Nat), u64 (lo % y : Nat)]) [] := by
  refine calls_to tok mix Tryz.func304 rfl rfl rfl ?_
  refine Br.mk (fun h => absurd h (by omega)) (fun _ => ?_)
  refine Br.mk (fun h => absurd h (by omega)) (fun _ => ?_)
  refine Br.mk (fun _ => ?_) (fun h => absurd rfl h)
  refine Dr.mk (by decide +kernel) ?_
  refine Dv.pos ⟨by omega, by omega, by show _ ≤ (18446744073709551615 : Int); omega⟩ ?_
  refine Dv.pos ⟨by omega, by omega⟩ ?_
  exact LE_tup2 (LE_int (by simp)) (LE_int (by simp))

/-- The quotient, rounded half up. -/
def rup (lo by_ : Nat) : Nat := (2 * lo + by_) / (2 * by_)
theorem rup_eq {lo y : Nat} (h0 : y ≠ 0) : rup lo y = if y ≤ 2 * (lo % y) then lo / y + 1 else lo / y := by
  unfold rup
  have e := Nat.div_add_mod lo y
  have hl := Nat.mod_lt lo (Nat.pos_of_ne_zero h0)
  generalize lo / y = q at *
  generalize lo % y = r at *
  subst e
  have p : 2 * (y * q + r) + y = 2 * y * q + (2 * r + y) := by rw [Nat.mul_add, Nat.mul_assoc]; omega
  rw [p, Nat.mul_add_div (by omega)]
  split
  · have : (2 * r + y) / (2 * y) = 1 := by
      rw [Nat.div_eq_iff (by omega)]; omega
    omega
  · have : (2 * r + y) / (2 * y) = 0 := Nat.div_eq_of_lt (by omega)
    omega

theorem c_near (lo y : Nat) (hlo : lo ≤ 9223372036854775808) (hy : y < 18446744073709551616) (h0 : y ≠ 0) :
    CallsG Tryz.prog 280 [.agg [u64 (0 : Nat), u64 lo, u64 y]] [] (.tup [u64 (rup lo y : Nat), bl true]) [] := by
  refine calls_to tok mix Tryz.func280 rfl rfl rfl ?_
  refine Br.mk (fun h => absurd h (by omega)) (fun _ => ?_)
  refine CallV.to _ (c_div64 lo y (by omega) hy h0) rfl ?_
  have hq := Nat.div_le_self lo y
  have hr := Nat.mod_lt lo (Nat.pos_of_ne_zero h0)
  have he := rup_eq (lo := lo) h0
  generalize rup lo y = u at *
  generalize lo / y = q at *
  generalize lo % y = r at *
  refine Ar.fit (by omega) ?_
  refine Br.mk (fun h => ?_) (fun h => ?_)
  · rw [if_pos (by omega)] at he
    refine Ar.fit (by omega) ?_
    exact LE_tup2 (LE_int (by omega)) (LE_yes (by omega))
  · rw [if_neg (by omega)] at he
    exact LE_tup2 (LE_int (by omega)) .refl

theorem c_signed (p : Prop) [i : Decidable p] (lo y : Nat) (hlo : lo ≤ 9223372036854775808) (hy : y < 18446744073709551616) (h0 : y ≠ 0) :
    CallsG Tryz.prog 279 [.pr p i, .val (.func (.func 280) #[.agg #[.int .u64 (0 : Nat), .int .u64 (lo : Nat), .int .u64 (y : Nat)]] #[])] []
      (.tup [i64 (fitI (if p then -(rup lo y : Int) else rup lo y)), pr (-9223372036854775808 ≤ (if p then -(rup lo y : Int) else rup lo y) ∧ (if p then -(rup lo y : Int) else rup lo y) ≤ 9223372036854775807)]) [] := by
  refine calls_to tok mix Tryz.func279 rfl rfl rfl ?_
  refine CallV.to _ (c_near lo y hlo hy h0) rfl ?_
  have hu : rup lo y < 18446744073709551616 := by
    rw [rup_eq h0]
    have := Nat.div_le_self lo y
    split <;> omega
  generalize rup lo y = u at *
  have bad : ∀ z : Int, ¬ (-9223372036854775808 ≤ z ∧ z ≤ 9223372036854775807) → LE (.tup [i64 0, bl false]) (.tup [i64 (fitI z), pr (-9223372036854775808 ≤ z ∧ z ≤ 9223372036854775807)]) := fun z h =>
    LE_tup2 (LE_int (by rw [fitI, if_neg h])) (LE_false h)
  have good : ∀ n z : Int, n = z → -9223372036854775808 ≤ z ∧ z ≤ 9223372036854775807 → LE (.tup [i64 n, bl true]) (.tup [i64 (fitI z), pr (-9223372036854775808 ≤ z ∧ z ≤ 9223372036854775807)]) := fun n z hn h =>
    LE_tup2 (LE_int (by rw [fitI, if_pos h, hn])) (LE_true h)
  refine Br.mk (fun h => bad _ (by split <;> omega)) (fun h => ?_)
  have tail : (u : Int) ≤ 9223372036854775808 → ((u : Int) = 9223372036854775808 → p) → IntKind.i64.wrap (IntKind.u64.wrap (-(u : Int))) = -(u : Int) ∧ (¬ p → (u : Int) ≤ 9223372036854775807) := fun g1 g2 => by
    refine ⟨?_, fun hp => ?_⟩
    · rw [wrap64]
      simp only [IntKind.wrap, IntKind.bits, IntKind.signed]
      simp
      omega
    · by_cases e : (u : Int) = 9223372036854775808
      · exact absurd (g2 e) hp
      · omega
  refine Br.mk (fun h1 => ?_) (fun h1 => ?_)
  · refine Br.mk (fun h2 => bad _ (by rw [if_neg h2]; omega)) (fun h2 => ?_)
    have hp := Decidable.not_not.1 h2
    obtain ⟨t1, t2⟩ := tail (by omega) (fun _ => hp)
    refine Br.mk (fun _ => ?_) (fun h3 => absurd hp h3)
    refine Ar.wrap ?_
    refine Ar.wrap ?_
    exact good _ _ (by rw [if_pos hp]; exact t1) (by rw [if_pos hp]; omega)
  · obtain ⟨t1, t2⟩ := tail (by omega) (fun h => absurd h h1)
    refine Br.mk (fun h3 => ?_) (fun h3 => ?_)
    · refine Ar.wrap ?_
      refine Ar.wrap ?_
      exact good _ _ (by rw [if_pos h3]; exact t1) (by rw [if_pos h3]; omega)
    · have := t2 h3
      refine Ar.fit (by omega) ?_
      exact good _ _ (by rw [if_neg h3]) (by rw [if_neg h3]; omega)

theorem rdiv_rup (a c : Int) : (if ¬ (¬ (a < 0 ↔ (1 : Int) < 0) ↔ c < 0) then -(rup a.natAbs c.natAbs : Int) else (rup a.natAbs c.natAbs : Int)) = rdiv a c := by
  unfold rdiv
  show _ = if a < 0 ↔ c < 0 then ((rup a.natAbs c.natAbs : Nat) : Int) else -((rup a.natAbs c.natAbs : Nat) : Int)
  generalize (rup a.natAbs c.natAbs : Int) = u
  by_cases h1 : a < 0 <;> by_cases h2 : c < 0 <;> simp [h1, h2]

theorem c_muldiv1 (a c : Int) (ha : R64 a) (hc : R64 c) : CallsG Tryz.prog 232 [i64 a, i64 1, i64 c] []
    (.tup [i64 (fitI (rdiv a c)), pr (c ≠ 0 ∧ -9223372036854775808 ≤ rdiv a c ∧ rdiv a c ≤ 9223372036854775807)]) [] := by
  refine calls_to tok mix Tryz.func232 rfl rfl rfl ?_
  refine Br.mk (fun h => ?_) (fun h => ?_)
  · refine LE_tup2 (LE_int ?_) (LE_false fun h' => h'.1 h)
    subst h
    simp [rdiv, fitI]
  refine CallV.to _ (c_size64 a ha) rfl ?_
  refine CallV.to _ (c_size64 1 (by decide)) rfl ?_
  refine CallV.to _ (c_mul64 a.natAbs (1 : Int).natAbs (by omega) (by omega)) rfl ?_
  rw [show (1 : Int).natAbs = 1 by rfl, Nat.mul_one, Nat.div_eq_of_lt (show a.natAbs < 18446744073709551616 by omega), Nat.mod_eq_of_lt (show a.natAbs < 18446744073709551616 by omega)]
  refine CallV.to _ (c_size64 c hc) rfl ?_
  refine CallV.to _ (c_signed (¬ (¬ (a < 0 ↔ (1 : Int) < 0) ↔ c < 0)) a.natAbs c.natAbs (by omega) (by omega) (by omega)) rfl ?_
  rw [rdiv_rup a c]
  exact LE_tup2 .refl (LE_pr ⟨fun g => ⟨h, g⟩, fun g => g.2⟩)

theorem c_divround (a b : Int) (ha : R64 a) (hb : R64 b) : CallsG Tryz.prog 167 [i64 a, i64 b] [] (i64 (fitI (rdiv a b))) [] := by
  refine calls_to tok mix Tryz.func167 rfl rfl rfl ?_
  refine CallV.to _ (c_muldiv1 a b ha hb) rfl ?_
  exact .refl

end Go.Gs
/- Natural numbers, the program's: copies, comparing, sums, differences. -/
namespace Go.Gs
open Go.Proofs

theorem n_short (a : List Dig) (ha : a.length ≤ 1000000000) : CallsG Tryz.prog 282 [.sl dgE a] [] (.full dgE (digs (val a))) [] := by
  refine calls_to tok mix Tryz.func282 rfl rfl rfl ?_
  intro hl0
  refine ⟨Nat, fun n => ⟨[(3, i64 n), (0, .sl dgE a)], [], 0, 22, 0⟩, fun n => n ≤ a.length ∧ ∀ i, n ≤ i → dig a i = 0, fun n => n, a.length, ?_, ?_, ?_⟩
  · exact ⟨Nat.le_refl _, fun i h => dig_out h⟩
  · exact sub_of [] rfl rfl rfl ⟨rfl, rfl, trivial⟩ trivial
  rintro n ⟨h1, h2⟩
  have post : (n = 0 ∨ dig a (n - 1) ≠ 0) → ((a.drop (0 : Int).toNat).take ((n : Int) - 0).toNat) = digs (val a) := fun h3 => by
    rw [← normd_take h3 h1 h2]; simp
  refine Br.mk (fun h3 => ?_) (fun h3 => ?_)
  · refine Ar.fit (by omega) ?_
    refine Ob.mk (by omega) ?_
    intro x hx
    rw [show ((n : Int) - 1).toNat = n - 1 by omega] at hx
    have dx := dig_some hx
    refine Br.mk (fun h4 => ?_) (fun h4 => ?_)
    · refine Ar.fit (by omega) ?_
      refine ⟨n - 1, ⟨by omega, fun i hi => ?_⟩, sub_of [] rfl rfl rfl ⟨congrArg (fun n => some (i64 n)) (by omega), rfl, trivial⟩ trivial, by dsimp only; omega⟩
      by_cases e : i = n - 1
      · subst e; rw [dx]; omega
      · exact h2 i (by omega)
    · refine FullC.full (Ob.mk ⟨⟨by omega, by omega, rfl, by omega⟩, fun _ _ => rfl⟩ ?_)
      exact LE_full (post (.inr (by omega)))
  · refine FullC.full (Ob.mk ⟨⟨by omega, by omega, rfl, by omega⟩, fun _ _ => rfl⟩ ?_)
    exact LE_full (post (.inl (by omega)))
theorem n_shortS (a : List Dig) (ha : a.length ≤ 1000000000) : CallsG Tryz.prog 282 [.sl dgE a] [] (.sl dgE (digs (val a))) [] := (n_short a ha).le (LE_full_sl rfl)

theorem n_clone (q : List Dig) (hq : q.length ≤ 1000000000) : CallsG Tryz.prog 281 [.sl dgE q] [] (.sl dgE q) [] := by
  refine calls_to tok mix Tryz.func281 rfl rfl rfl ?_
  by_cases h0 : q = []
  · refine NilC.any (Br.mk ?_ ?_)
    · subst h0; exact LE_nil0
    · refine ⟨Dig, dgE, [], rfl, Ob.mk dNone ?_⟩
      refine ⟨q, rfl, Ob.mk (dApp (by simp only [List.length_nil]; omega)) ?_⟩
      exact LE_sl rfl
  · refine NilC.some (fun h => h0 (List.eq_nil_of_length_eq_zero h)) ?_
    refine ⟨Dig, dgE, [], rfl, Ob.mk dNone ?_⟩
    refine ⟨q, rfl, Ob.mk (dApp (by simp only [List.length_nil]; omega)) ?_⟩
    exact LE_sl rfl

theorem n_normalize (a : List Dig) (ha : a.length ≤ 1000000000) : CallsG Tryz.prog 233 [.sl dgE a] [] (.sl dgE (digs (val a))) [] := by
  refine calls_to tok mix Tryz.func233 rfl rfl rfl ?_
  refine CallV.to _ (n_shortS a ha) rfl ?_
  refine CallV.to _ (n_clone _ (by have := digs_val_len a; omega)) rfl ?_
  exact .refl

theorem n_fromU64 (n : Nat) (hn : n < 18446744073709551616) : CallsG Tryz.prog 169 [u64 n] [] (.sl dgE (digs n)) [] := by
  refine calls_to tok mix Tryz.func169 rfl rfl rfl ?_
  refine Ar.wrap ?_
  refine Ob.mk (by decide) ?_
  refine Ar.wrap ?_
  refine ⟨Dig, dgE, [dof n, dof (n / 4294967296)], congr (congrArg (fun n m => [u32 n, u32 m]) (dofW rfl)) (dofW (by simp only [Int.reducePow]; omega)), Ob.mk (dTwo _ _) ?_⟩
  refine CallV.see 0 _ (n_normalize [dof n, dof (n / 4294967296)] (by simp)) rfl rfl rfl ?_
  rw [val_two _ hn]
  exact .refl

theorem n_digit (a : List Dig) (i : Int) (hi : 0 ≤ i) : CallsG Tryz.prog 287 [.sl dgE a, i64 i] [] (u64 (dig a i.toNat)) [] := by
  refine calls_to tok mix Tryz.func287 rfl rfl rfl ?_
  intro hl
  refine Br.mk (fun h => ?_) (fun h => ?_)
  · refine Ob.mk (by omega) ?_
    intro x hx
    have := x.isLt
    refine Ar.fit (by omega) ?_
    exact LE_int (by rw [dig_some hx])
  · exact LE_int (by rw [dig_out (by omega)]; rfl)

theorem digs_lenlt {A B : Nat} (h : (digs A).length < (digs B).length) : A < B := by
  have h1 := digs_lt (n := A) (Nat.le_refl _)
  have h2 := digs_ge (n := B) (fun e => by rw [e, digs_zero] at h; simp at h)
  exact Nat.lt_of_lt_of_le h1 (Nat.le_trans (Nat.pow_le_pow_right (by decide) (by omega)) h2)

theorem n_cmp (a b : List Dig) (ha : a.length ≤ 1000000000) (hb : b.length ≤ 1000000000) :
    CallsG Tryz.prog 248 [.sl dgE a, .sl dgE b] [] (i64 (cmpN (val a) (val b))) [] := by
  refine calls_to tok mix Tryz.func248 rfl rfl rfl ?_
  refine CallV.to _ (n_shortS a ha) rfl ?_
  refine CallV.to _ (n_shortS b hb) rfl ?_
  have la := digs_val_len a
  have lb := digs_val_len b
  generalize val a = A at *
  generalize val b = B at *
  intro hl1 hl2
  refine Br.mk (fun h3 => ?_) (fun h3 => ?_)
  · intro hl4 hl5
    refine Br.mk (fun h6 => ?_) (fun h6 => ?_)
    · have := digs_lenlt (A := A) (B := B) (by omega)
      exact LE_int (by rw [cmpN, if_pos this])
    · have := digs_lenlt (A := B) (B := A) (by omega)
      exact LE_int (by rw [cmpN, if_neg (by omega), if_pos this])
  have h3 : (digs A).length = (digs B).length := by omega
  intro hl7
  refine Ar.fit (by omega) ?_
  refine ⟨Nat, fun j => ⟨[(5, i64 ((j : Int) - 1)), (0, .sl dgE (digs A)), (1, .sl dgE (digs B))], [], 0, 45, 0⟩, fun j => j ≤ (digs A).length ∧ ∀ i, j ≤ i → dig (digs A) i = dig (digs B) i, fun j => j, (digs A).length, ?_, ?_, ?_⟩
  · exact ⟨by omega, fun i hi => by rw [dig_out (by omega), dig_out (by omega)]⟩
  · exact sub_of [] rfl rfl rfl ⟨rfl, rfl, rfl, trivial⟩ trivial
  rintro j ⟨h1, h2⟩
  refine Br.mk (fun h8 => ?_) (fun h8 => ?_)
  · have h2' : ∀ i, j - 1 + 1 ≤ i → dig (digs A) i = dig (digs B) i := fun i hi => h2 i (by omega)
    refine Dr.mk (by decide +kernel) ?_
    refine Ob.mk (by omega) ?_
    intro x hx
    rw [show ((j : Int) - 1).toNat = j - 1 by omega] at hx
    have dx := dig_some hx
    refine Ob.mk (by omega) ?_
    intro y hy
    rw [show ((j : Int) - 1).toNat = j - 1 by omega] at hy
    have dy := dig_some hy
    refine Br.mk (fun h4 => ?_) (fun h4 => ?_)
    · have := cmp_step h2' (by omega)
      rw [val_digs, val_digs] at this
      exact LE_int (by rw [cmpN, if_pos this])
    refine Dr.mk (by decide +kernel) ?_
    refine Ob.mk (by omega) ?_
    intro x' hx'
    rw [show ((j : Int) - 1).toNat = j - 1 by omega, hx] at hx'
    cases hx'
    refine Ob.mk (by omega) ?_
    intro y' hy'
    rw [show ((j : Int) - 1).toNat = j - 1 by omega, hy] at hy'
    cases hy'
    refine Br.mk (fun h5 => ?_) (fun h5 => ?_)
    · have := cmp_step (fun i hi => (h2' i hi).symm) (by omega)
      rw [val_digs, val_digs] at this
      exact LE_int (by rw [cmpN, if_neg (by omega), if_pos this])
    refine Ar.fit (by omega) ?_
    refine ⟨j - 1, ⟨by omega, fun i hi => ?_⟩, sub_of [] rfl rfl rfl ⟨congrArg (fun n => some (i64 n)) (by omega), rfl, rfl, trivial⟩ trivial, by dsimp only; omega⟩
    by_cases hij : i = j - 1
    · subst hij; omega
    · exact h2 i (by omega)
  · have hj : j = 0 := by omega
    subst hj
    have := val_congr fun i => h2 i (Nat.zero_le _)
    rw [val_digs, val_digs] at this
    exact LE_int (by rw [cmpN, if_neg (by omega), if_neg (by omega)])

set_option maxRecDepth 100000 in
theorem n_add (a b : List Dig) (ha : a.length ≤ 900000000) (hb : b.length ≤ 900000000) :
    CallsG Tryz.prog 238 [.sl dgE a, .sl dgE b] [] (.sl dgE (digs (val a + val b))) [] := by
  refine calls_to tok mix Tryz.func238 rfl rfl rfl ?_
  intro hl1 hl2
  refine Ar.fit (by simp only [maxL]; omega) ?_
  have en : maxL (a.length : Int) [(b.length : Int)] + 1 = ((max a.length b.length + 1 : Nat) : Int) := by simp only [maxL]; omega
  change ∃ _, _
  rw [en]
  generalize hn : max a.length b.length + 1 = n at *
  refine ⟨Dig, dgE, 0, rfl, Ob.mk ⟨by decide, by omega, by omega, (by show _ * (4 : Int) ≤ _; omega), by omega⟩ ?_⟩
  intro hl3
  refine ⟨Nat × List Dig × Nat, fun ⟨i, out, c⟩ => ⟨[(17, i64 i), (16, i64 n), (6, u64 c), (5, .own 0), (0, .sl dgE a), (1, .sl dgE b)], [(0, dArr out)], 1, 39, 0⟩,
    fun q => q.1 ≤ n ∧ q.2.1.length = n ∧ q.2.2 ≤ 1 ∧ (∀ j, q.1 ≤ j → dig q.2.1 j = 0) ∧ val q.2.1 + 4294967296 ^ q.1 * q.2.2 = val (a.take q.1) + val (b.take q.1), fun q => n - q.1, (0, List.replicate n 0, 0), ?_, ?_, ?_⟩
  · exact ⟨Nat.zero_le _, by simp, Nat.zero_le _, fun j _ => dig_replicate _ _, by simp [val_zeros, val]⟩
  · exact sub_of [(0, some 0)] rfl rfl rfl ⟨rfl, congrArg (fun n => some (i64 n)) (by simp), rfl, rfl, rfl, rfl, trivial⟩ ⟨rfl, trivial⟩
  rintro ⟨i, out, c⟩ ⟨h1, h2, h3, h4, h5⟩
  dsimp only at h1 h2 h3 h4 h5
  refine Br.mk (fun h6 => ?_) (fun h6 => ?_)
  · have d1 := dig_lt a i
    have d2 := dig_lt b i
    refine CallV.to _ (n_digit a _ (by omega)) rfl ?_
    refine CallV.to _ (n_digit b _ (by omega)) rfl ?_
    simp only [Int.toNat_natCast]
    refine Ar.fit (by omega) ?_
    refine Ar.fit (by omega) ?_
    refine Ar.wrap ?_
    refine Ob.mk (by omega) ?_
    refine Ob.mk (by omega) ?_
    intro z hz
    refine ⟨dof (dig a i + dig b i + c), congrArg (fun n => [u32 n]) (dofW (by omega)), ?_⟩
    refine Ob.mk (by decide) ?_
    refine Ar.fit (by omega) ?_
    refine ⟨(i + 1, out.set i (dof (dig a i + dig b i + c)), (dig a i + dig b i + c) / 4294967296), ⟨by dsimp only; omega, by simp [h2], by dsimp only; omega, fun j hj => ?_, ?_⟩,
      sub_of [(0, some 0)] rfl rfl rfl ⟨rfl, rfl, congrArg (fun n => some (u64 n)) (by simp only [Int.reducePow]; omega), rfl, rfl, rfl, trivial⟩ ⟨rfl, trivial⟩, by dsimp only; omega⟩
    · dsimp only at hj ⊢
      rw [dig_set, if_neg (by omega)]; exact h4 j (by omega)
    · dsimp only
      have hs := val_set out i (dof (dig a i + dig b i + c)) (by omega)
      rw [h4 i (Nat.le_refl _), dof_val, Nat.mul_zero, Nat.add_zero] at hs
      rw [hs, val_take_succ, val_take_succ, Nat.pow_succ]
      have e := Nat.div_add_mod (dig a i + dig b i + c) 4294967296
      generalize (dig a i + dig b i + c) / 4294967296 = x at *
      generalize (dig a i + dig b i + c) % 4294967296 = y at *
      generalize 4294967296 ^ i = p at *
      clear hs h4
      grind
  · have hi : i = n := by omega
    subst hi
    rw [val_take_all (by omega), val_take_all (by omega)] at h5
    have hc : c = 0 := by
      have l1 := Nat.lt_of_lt_of_le (val_lt a) (Nat.pow_le_pow_right (show 0 < 4294967296 by decide) (show a.length ≤ i - 1 by omega))
      have l2 := Nat.lt_of_lt_of_le (val_lt b) (Nat.pow_le_pow_right (show 0 < 4294967296 by decide) (show b.length ≤ i - 1 by omega))
      have e : 4294967296 ^ i = 4294967296 ^ (i - 1) * 4294967296 := by rw [← Nat.pow_succ]; congr 1; omega
      have : c = 0 ∨ c = 1 := by omega
      rcases this with h | h
      · exact h
      · subst h; omega
    subst hc
    refine CallV.see 0 _ (n_shortS out (by omega)) rfl rfl rfl ?_
    rw [show val out = val a + val b by omega]
    exact .refl

set_option maxRecDepth 100000 in
theorem n_sub (a b : List Dig) (ha : a.length ≤ 900000000) (hb : b.length ≤ 900000000) :
    CallsG Tryz.prog 239 [.sl dgE a, .sl dgE b] [] (.tup [.sl dgE (digs (val a - val b)), pr (val b ≤ val a)]) [] := by
  refine calls_to tok mix Tryz.func239 rfl rfl rfl ?_
  refine CallV.to _ (n_cmp a b (by omega) (by omega)) rfl ?_
  refine Br.mk (fun h => ?_) (fun h => ?_)
  · have hlt := cmpN_lt.1 h
    refine LE_tup2 ?_ (LE_false (by omega))
    rw [Nat.sub_eq_zero_of_le (by omega), digs_zero]; exact LE_nil0
  have hle : val b ≤ val a := Nat.le_of_not_lt fun h' => h (cmpN_lt.2 h')
  refine CallV.to _ (n_shortS a (by omega)) rfl ?_
  have la := digs_val_len a
  have ldef := digs_lt (n := val a) (Nat.le_refl _)
  intro hl2
  generalize hn : (digs (val a)).length = n at *
  refine ⟨Dig, dgE, 0, rfl, Ob.mk ⟨by decide, by omega, by omega, (by show _ * (4 : Int) ≤ _; omega), by omega⟩ ?_⟩
  intro hl3
  refine ⟨Nat × List Dig × Nat, fun ⟨i, out, c⟩ => ⟨[(20, i64 i), (19, i64 n), (7, u64 c), (6, .own 0), (0, .sl dgE a), (1, .sl dgE b)], [(0, dArr out)], 1, 42, 0⟩,
    fun q => q.1 ≤ n ∧ q.2.1.length = n ∧ q.2.2 ≤ 1 ∧ (∀ j, q.1 ≤ j → dig q.2.1 j = 0) ∧ val q.2.1 + val (b.take q.1) = val (a.take q.1) + 4294967296 ^ q.1 * q.2.2, fun q => n - q.1, (0, List.replicate n 0, 0), ?_, ?_, ?_⟩
  · exact ⟨Nat.zero_le _, by simp, Nat.zero_le _, fun j _ => dig_replicate _ _, by simp [val_zeros, val]⟩
  · exact sub_of [(0, some 0)] rfl rfl rfl ⟨rfl, congrArg (fun n => some (i64 n)) (by simp), rfl, rfl, rfl, rfl, trivial⟩ ⟨rfl, trivial⟩
  rintro ⟨i, out, c⟩ ⟨h1, h2, h3, h4, h5⟩
  dsimp only at h1 h2 h3 h4 h5
  refine Br.mk (fun h6 => ?_) (fun h6 => ?_)
  · have d1 := dig_lt a i
    have d2 := dig_lt b i
    refine CallV.to _ (n_digit a _ (by omega)) rfl ?_
    refine CallV.to _ (n_digit b _ (by omega)) rfl ?_
    simp only [Int.toNat_natCast]
    refine Ar.wrap ?_
    refine Ar.wrap ?_
    refine Ar.wrap ?_
    refine Ob.mk (by omega) ?_
    refine Ob.mk (by omega) ?_
    intro z hz
    refine ⟨dof (4294967296 + dig a i - dig b i - c), congrArg (fun n => [u32 n]) (by rw [wrap32, wrap64, wrap64, dof_val]; omega), ?_⟩
    refine Ob.mk (by decide) ?_
    refine Ar.fit (by omega) ?_
    refine ⟨(i + 1, out.set i (dof (4294967296 + dig a i - dig b i - c)), 1 - (4294967296 + dig a i - dig b i - c) / 4294967296), ⟨by dsimp only; omega, by simp [h2], by dsimp only; omega, fun j hj => ?_, ?_⟩,
      sub_of [(0, some 0)] rfl rfl rfl ⟨rfl, rfl, congrArg (fun n => some (u64 n)) (by rw [wrap64, wrap64]; simp only [Int.reducePow]; omega), rfl, rfl, rfl, trivial⟩ ⟨rfl, trivial⟩, by dsimp only; omega⟩
    · dsimp only at hj ⊢
      rw [dig_set, if_neg (by omega)]; exact h4 j (by omega)
    · dsimp only
      have hs := val_set out i (dof (4294967296 + dig a i - dig b i - c)) (by omega)
      rw [h4 i (Nat.le_refl _), dof_val, Nat.mul_zero, Nat.add_zero] at hs
      rw [hs, val_take_succ, val_take_succ, Nat.pow_succ]
      have e : (4294967296 + dig a i - dig b i - c) % 4294967296 + dig b i + c = dig a i + 4294967296 * (1 - (4294967296 + dig a i - dig b i - c) / 4294967296) := by omega
      generalize 1 - (4294967296 + dig a i - dig b i - c) / 4294967296 = x at *
      generalize (4294967296 + dig a i - dig b i - c) % 4294967296 = y at *
      generalize 4294967296 ^ i = p at *
      have e2 : p * y + p * dig b i + p * c = p * dig a i + p * 4294967296 * x := by
        rw [← Nat.mul_add, ← Nat.mul_add, e, Nat.mul_add, Nat.mul_assoc]
      omega
  · have hi : i = n := by omega
    subst hi
    have ea : val (a.take i) = val a := by rw [val_take, Nat.mod_eq_of_lt ldef]
    have eb : val (b.take i) = val b := by rw [val_take, Nat.mod_eq_of_lt (Nat.lt_of_le_of_lt hle ldef)]
    rw [ea, eb] at h5
    have e4 := val_lt out
    rw [h2] at e4
    have e : val out = val a - val b := by
      have : c = 0 ∨ c = 1 := by omega
      rcases this with rfl | rfl <;> omega
    refine CallV.see 0 _ (n_shortS out (by omega)) rfl rfl rfl ?_
    rw [e]
    exact LE_tup2 .refl (LE_true hle)

end Go.Gs
/- Knuth's estimate of a quotient's digit. -/
namespace Go.Gs

/-- The last two digits of a row and the rest. -/
theorem val_two_top (xs : List Dig) (n : Nat) (h : xs.length = n + 2) : ∃ r, r < 4294967296 ^ n ∧ val xs = (dig xs (n + 1) * 4294967296 + dig xs n) * 4294967296 ^ n + r := by
  refine ⟨val (xs.take n), val_take_lt xs n, ?_⟩
  have e1 := val_split xs n
  have e2 := val_drop_cons xs n
  have e3 := val_drop_cons xs (n + 1)
  rw [val_drop_out (show xs.length ≤ n + 1 + 1 by omega), Nat.mul_zero, Nat.add_zero] at e3
  rw [e3] at e2
  rw [e1, e2]
  generalize dig xs (n + 1) = a
  generalize dig xs n = b
  generalize 4294967296 ^ n = p
  grind

/-- What an estimate of the quotient's digit satisfies: it is exact or one too large. -/
theorem guess_ok {P v1 v2 rv top u2 ru q r : Nat} (hrv : rv < P) (hru : ru < P) (hv1 : 2147483648 ≤ v1) (hv2 : v2 < 4294967296) (e : q * v1 + r = top) (hq : q ≤ 4294967296)
    (hle : q * v2 ≤ r * 4294967296 + u2) (hQ : ((top * 4294967296 + u2) * P + ru) / ((v1 * 4294967296 + v2) * P + rv) ≤ q) :
    q = ((top * 4294967296 + u2) * P + ru) / ((v1 * 4294967296 + v2) * P + rv) ∨ q = ((top * 4294967296 + u2) * P + ru) / ((v1 * 4294967296 + v2) * P + rv) + 1 := by
  have hP : 0 < P := by omega
  have hV : 0 < (v1 * 4294967296 + v2) * P + rv := by
    have : 0 < (v1 * 4294967296 + v2) * P := Nat.mul_pos (by omega) hP
    omega
  have key : (q - 1) * ((v1 * 4294967296 + v2) * P + rv) ≤ (top * 4294967296 + u2) * P + ru := by
    rcases Nat.eq_zero_or_pos q with h0 | h0
    · subst h0; simp
    · obtain ⟨p, rfl⟩ : ∃ p, q = p + 1 := ⟨q - 1, by omega⟩
      rw [Nat.add_sub_cancel]
      have h1 : p * ((v1 * 4294967296 + v2) * P + rv) ≤ p * ((v1 * 4294967296 + v2 + 1) * P) := by
        refine Nat.mul_le_mul_left _ ?_
        rw [Nat.add_mul _ 1 P]; omega
      have h2 : p * (v1 * 4294967296 + v2 + 1) ≤ top * 4294967296 + u2 := by
        have a1 : (p + 1) * v1 = p * v1 + v1 := by rw [Nat.add_mul]; omega
        have a2 : (p + 1) * v2 = p * v2 + v2 := by rw [Nat.add_mul]; omega
        have a3 : p * (v1 * 4294967296 + v2 + 1) = (p * v1) * 4294967296 + p * v2 + p := by
          rw [Nat.mul_add, Nat.mul_add, Nat.mul_assoc]; omega
        rw [a1] at e
        rw [a2] at hle
        rw [a3]
        omega
      have h3 : p * ((v1 * 4294967296 + v2 + 1) * P) ≤ (top * 4294967296 + u2) * P := by
        rw [← Nat.mul_assoc]; exact Nat.mul_le_mul_right _ h2
      omega
  have := (Nat.le_div_iff_mul_le hV).2 key
  omega

/-- A guess that is still too large. -/
theorem guess_big {P v1 v2 rv top u2 ru q r : Nat} (hru : ru < P) (e : q * v1 + r = top) (hgt : r * 4294967296 + u2 < q * v2) :
    ((top * 4294967296 + u2) * P + ru) / ((v1 * 4294967296 + v2) * P + rv) < q := by
  have hP : 0 < P := by omega
  have hq : 0 < q := by
    rcases Nat.eq_zero_or_pos q with h | h
    · subst h; omega
    · exact h
  have h1 : top * 4294967296 + u2 + 1 ≤ q * (v1 * 4294967296 + v2) := by
    have a3 : q * (v1 * 4294967296 + v2) = (q * v1) * 4294967296 + q * v2 := by rw [Nat.mul_add, Nat.mul_assoc]
    rw [a3]; omega
  have h2 : (top * 4294967296 + u2) * P + ru < q * ((v1 * 4294967296 + v2) * P + rv) := by
    have a1 : (top * 4294967296 + u2 + 1) * P ≤ q * (v1 * 4294967296 + v2) * P := Nat.mul_le_mul_right _ h1
    have a2 : q * (v1 * 4294967296 + v2) * P ≤ q * ((v1 * 4294967296 + v2) * P + rv) := by
      rw [Nat.mul_assoc]; exact Nat.mul_le_mul_left _ (Nat.le_add_right _ _)
    rw [Nat.add_mul _ 1 P] at a1
    omega
  have hV : 0 < (v1 * 4294967296 + v2) * P + rv := by
    rcases Nat.eq_zero_or_pos ((v1 * 4294967296 + v2) * P + rv) with h | h
    · rw [h] at h2; omega
    · exact h
  exact (Nat.div_lt_iff_lt_mul hV).2 h2

/-- The digits that are taken off, one by one. -/
theorem take_step {p q c b ui y lo c' ui' b' U V R : Nat} (h : R + q * V = U + p * (c + b)) (hl : lo + 4294967296 * c' = c + q * y) (hu : ui' + lo + b = ui + 4294967296 * b') :
    R + p * ui' + q * (V + p * y) = U + p * ui + p * 4294967296 * (c' + b') := by
  have e1 : ui' + (c + q * y) + b = ui + 4294967296 * (c' + b') := by omega
  have e2 : p * (ui' + (c + q * y) + b) = p * (ui + 4294967296 * (c' + b')) := by rw [e1]
  grind

end Go.Gs
/- Natural numbers, the program's: products, quotients by one digit, guesses. -/
namespace Go.Gs
open Go.Proofs

set_option maxRecDepth 100000 in
set_option maxHeartbeats 1000000 in
theorem n_mul (a0 b0 : List Dig) (ha : a0.length ≤ 400000000) (hb : b0.length ≤ 400000000) :
    CallsG Tryz.prog 249 [.sl dgE a0, .sl dgE b0] [] (.sl dgE (digs (val a0 * val b0))) [] := by
  refine calls_to tok mix Tryz.func249 rfl rfl rfl ?_
  refine CallV.to _ (n_shortS a0 (by omega)) rfl ?_
  refine CallV.to _ (n_shortS b0 (by omega)) rfl ?_
  have la := digs_val_len a0
  have lb := digs_val_len b0
  have va := val_digs (val a0)
  have vb := val_digs (val b0)
  generalize digs (val a0) = a at *
  generalize digs (val b0) = b at *
  rw [← va, ← vb]
  clear va vb
  intro hl1 hl2
  refine Ar.fit (by omega) ?_
  refine ⟨Dig, dgE, 0, rfl, Ob.mk ⟨by decide, by omega, by omega, (by show _ * (4 : Int) ≤ _; omega), by omega⟩ ?_⟩
  intro hl3
  refine ⟨Nat × List Dig, fun ⟨i, out⟩ => ⟨[(23, i64 i), (22, i64 a.length), (21, .sl dgE a), (5, .own 0), (1, .sl dgE b)], [(0, dArr out)], 1, 73, 0⟩,
    fun q => q.1 ≤ a.length ∧ q.2.length = a.length + b.length ∧ val q.2 = val (a.take q.1) * val b ∧ ∀ j, q.1 + b.length ≤ j → dig q.2 j = 0, fun q => a.length - q.1, (0, List.replicate (a.length + b.length) 0), ?_, ?_, ?_⟩
  · exact ⟨Nat.zero_le _, by simp, by simp [val_zeros, val], fun j _ => dig_replicate _ _⟩
  · exact sub_of [(0, some 0)] rfl rfl rfl ⟨rfl, rfl, rfl, rfl, rfl, trivial⟩ ⟨congrArg (fun n => some (dArr (List.replicate n 0))) (by omega), trivial⟩
  rintro ⟨i, out0⟩ ⟨h1, h2, h3, h4⟩
  dsimp only at h1 h2 h3 h4
  refine Br.mk (fun h5 => ?_) (fun h5 => ?_)
  · refine Ob.mk (by omega) ?_
    intro x hx
    have hx : a[i]? = some x := hx
    have dx := dig_some hx
    have hxl := x.isLt
    refine Br.mk (fun h6 => ?_) (fun h6 => ?_)
    · refine Ar.fit (by omega) ?_
      refine ⟨(i + 1, out0), ⟨by dsimp only; omega, h2, ?_, fun j hj => h4 j (by dsimp only at hj; omega)⟩, sub_of [(0, some 0)] rfl rfl rfl ⟨rfl, rfl, rfl, rfl, rfl, trivial⟩ ⟨rfl, trivial⟩, by dsimp only; omega⟩
      dsimp only
      rw [val_take_succ, dx, show x.val = 0 by omega, Nat.mul_zero, Nat.add_zero]; exact h3
    intro hl6
    refine ⟨Nat × List Dig × Nat, fun ⟨k, out, c⟩ => ⟨[(32, i64 k), (31, i64 b.length), (30, .sl dgE b), (8, u64 c), (7, u32 x.val), (6, i64 i), (23, i64 i), (22, i64 a.length), (21, .sl dgE a), (5, .own 0), (1, .sl dgE b)], [(0, dArr out)], 1, 73, 0⟩,
      fun q => q.1 ≤ b.length ∧ q.2.1.length = a.length + b.length ∧ q.2.2 < 4294967296 ∧ val q.2.1 + 4294967296 ^ (i + q.1) * q.2.2 = val out0 + 4294967296 ^ i * (x.val * val (b.take q.1)) ∧ ∀ j, i + b.length ≤ j → dig q.2.1 j = 0, fun q => b.length - q.1, (0, out0, 0), ?_, ?_, ?_⟩
    · exact ⟨Nat.zero_le _, h2, by dsimp only; omega, by simp [val], h4⟩
    · exact sub_of [(0, some 0)] rfl rfl rfl ⟨rfl, rfl, rfl, rfl, rfl, rfl, rfl, rfl, rfl, rfl, rfl, trivial⟩ ⟨rfl, trivial⟩
    rintro ⟨k, out, c⟩ ⟨g1, g2, g3, g4, g5⟩
    dsimp only at g1 g2 g3 g4 g5
    refine Br.mk (fun g6 => ?_) (fun g6 => ?_)
    · refine Ob.mk (by omega) ?_
      intro y hy
      have hy : b[k]? = some y := hy
      have dy := dig_some hy
      have hyl := y.isLt
      have hm0 := mul_digs0 hxl hyl
      refine Ar.fit (by omega) ?_
      refine Ar.fit (by omega) ?_
      refine Ar.fit (by omega) ?_
      refine Ar.fit (by omega) ?_
      refine Ob.mk (by omega) ?_
      refine Ob.mk (by omega) ?_
      intro z hz
      rw [show ((i : Int) + k).toNat = i + k by omega] at hz
      have dz := dig_some hz
      have hzl := z.isLt
      refine Ar.fit (by omega) ?_
      refine Ar.fit (by omega) ?_
      refine Ar.fit (by omega) ?_
      refine Ar.fit (by omega) ?_
      refine Ar.wrap ?_
      refine Ob.mk (by omega) ?_
      refine Ob.mk (by omega) ?_
      intro z' hz'
      refine ⟨dof (x.val * y.val + z.val + c), congrArg (fun n => [u32 n]) (dofW (by omega)), ?_⟩
      refine Ob.mk (by decide) ?_
      refine Ar.fit (by omega) ?_
      refine ⟨(k + 1, out.set (i + k) (dof (x.val * y.val + z.val + c)), (x.val * y.val + z.val + c) / 4294967296), ⟨by dsimp only; omega, by simp [g2], by dsimp only; omega, ?_, ?_⟩,
        sub_of [(0, some 0)] rfl rfl rfl ⟨rfl, rfl, rfl, congrArg (fun n => some (u64 n)) (by simp only [Int.reducePow]; omega), rfl, rfl, rfl, rfl, rfl, rfl, rfl, trivial⟩ ⟨congrArg (fun n => some (dArr (out.set n _))) (by omega), trivial⟩, by dsimp only; omega⟩
      · dsimp only
        have hs := val_set out (i + k) (dof (x.val * y.val + z.val + c)) (by omega)
        rw [dof_val, dz] at hs
        rw [val_take_succ, dy, ← Nat.add_assoc i k 1, Nat.pow_succ]
        have e := Nat.div_add_mod (x.val * y.val + z.val + c) 4294967296
        rw [Nat.pow_add] at g4 hs ⊢
        exact mul_step g4 hs e
      · intro j hj
        dsimp only
        rw [dig_set, if_neg (by omega)]
        exact g5 j hj
    · have hk : k = b.length := by omega
      intro hl8
      refine Ar.fit (by omega) ?_
      refine Ar.wrap ?_
      refine Ob.mk (by omega) ?_
      refine Ob.mk (by omega) ?_
      intro z' hz'
      refine ⟨dof c, congrArg (fun n => [u32 n]) (dofW rfl), ?_⟩
      refine Ar.fit (by omega) ?_
      refine ⟨(i + 1, out.set (i + b.length) (dof c)), ⟨by dsimp only; omega, by simp [g2], ?_, ?_⟩,
        sub_of [(0, some 0)] rfl rfl rfl ⟨rfl, rfl, rfl, rfl, rfl, trivial⟩ ⟨congrArg (fun n => some (dArr (out.set n _))) (by omega), trivial⟩, by dsimp only; omega⟩
      · dsimp only
        have hs := val_set out (i + b.length) (dof c) (by omega)
        rw [dof_val, g5 _ (Nat.le_refl _), Nat.mod_eq_of_lt g3] at hs
        rw [hk, val_take_all (Nat.le_refl _), h3] at g4
        rw [val_take_succ, dx]
        generalize val (out.set (i + b.length) _) = r at *
        generalize 4294967296 ^ i = p at *
        generalize 4294967296 ^ (i + b.length) = q at *
        generalize val (a.take i) = w at *
        generalize x.val = x at *
        generalize val out = o at *
        clear h4 g5
        grind
      · intro j hj
        dsimp only
        rw [dig_set, if_neg (by omega)]
        exact g5 j (by omega)
  · have hi : i = a.length := by omega
    rw [hi, val_take_all (Nat.le_refl _)] at h3
    refine CallV.see 0 _ (n_shortS out0 (by omega)) rfl rfl rfl ?_
    rw [h3]
    exact .refl

theorem or_shift {x y : Nat} {e : Int} (hx : x < 4294967296) (hy : y < 4294967296) (he : e = (x : Int) * 2 ^ 32) : bitsK .or .u64 e y = ((x * 4294967296 + y : Nat) : Int) := by
  have h1 : e = ((x * 4294967296 : Nat) : Int) := by rw [he]; simp only [Int.reducePow]; omega
  rw [h1, or_nat (by omega) (by omega)]
  have := Nat.two_pow_add_eq_or_of_lt (i := 32) (b := y) (by rw [show 2 ^ 32 = 4294967296 by decide]; exact hy) x
  rw [show 2 ^ 32 = 4294967296 by decide, Nat.mul_comm] at this
  rw [← this]

set_option maxRecDepth 100000 in
theorem n_one (a : List Dig) (d : Nat) (ha : a.length ≤ 900000000) (hd : d < 4294967296) (h0 : d ≠ 0) :
    CallsG Tryz.prog 283 [.sl dgE a, u32 d] [] (.tup [.sl dgE (digs (val a / d)), u32 (val a % d : Nat)]) [] := by
  refine calls_to tok mix Tryz.func283 rfl rfl rfl ?_
  intro hl1
  refine ⟨Dig, dgE, 0, rfl, Ob.mk ⟨by decide, by omega, by omega, (by show _ * (4 : Int) ≤ _; omega), by omega⟩ ?_⟩
  intro hl2
  refine Ar.fit (by omega) ?_
  refine ⟨Nat × List Dig × Nat, fun ⟨j, out, r⟩ => ⟨[(8, i64 ((j : Int) - 1)), (7, u64 r), (6, .own 0), (0, .sl dgE a), (1, u32 d)], [(0, dArr out)], 1, 43, 0⟩,
    fun q => q.1 ≤ a.length ∧ q.2.1.length = a.length ∧ q.2.2 < d ∧ val (a.drop q.1) = d * val (q.2.1.drop q.1) + q.2.2, fun q => q.1, (a.length, List.replicate a.length 0, 0), ?_, ?_, ?_⟩
  · refine ⟨Nat.le_refl _, by simp, by dsimp only; omega, ?_⟩
    dsimp only
    rw [val_drop_out (Nat.le_refl _), val_drop_out (by simp), Nat.mul_zero]
  · exact sub_of [(0, some 0)] rfl rfl rfl ⟨rfl, rfl, rfl, rfl, rfl, trivial⟩ ⟨congrArg (fun n => some (dArr (List.replicate n 0))) (by omega), trivial⟩
  rintro ⟨j, out, r⟩ ⟨h1, h2, h3, h4⟩
  dsimp only at h1 h2 h3 h4
  refine Br.mk (fun h5 => ?_) (fun h5 => ?_)
  · refine Ob.mk (by decide) ?_
    refine Ar.fit (by simp only [Int.reducePow]; omega) ?_
    refine Ob.mk (by omega) ?_
    intro x hx
    rw [show ((j : Int) - 1).toNat = j - 1 by omega] at hx
    have dx := dig_some hx
    have hxl := x.isLt
    refine Ar.fit (by omega) ?_
    refine ⟨_, (or_shift (by omega) hxl rfl).symm, ?_⟩
    have hq : (r * 4294967296 + x.val) / d < 4294967296 := by
      rw [Nat.div_lt_iff_lt_mul (by omega)]
      have : r * 4294967296 + 4294967296 ≤ 4294967296 * d := by omega
      omega
    have hm : (r * 4294967296 + x.val) % d < d := Nat.mod_lt _ (by omega)
    have hdm := Nat.div_add_mod (r * 4294967296 + x.val) d
    refine Ar.fit (by omega) ?_
    refine Dv.pos ⟨by omega, by omega, by show _ ≤ (18446744073709551615 : Int); omega⟩ ?_
    have e1 : ((r * 4294967296 + x.val : Nat) : Int) / (d : Int) = (((r * 4294967296 + x.val) / d : Nat) : Int) := by simp
    have e2 : ((r * 4294967296 + x.val : Nat) : Int) % (d : Int) = (((r * 4294967296 + x.val) % d : Nat) : Int) := by simp
    rw [e1]
    generalize (r * 4294967296 + x.val) / d = qd at *
    refine Ar.fit (by omega) ?_
    refine Ob.mk (by omega) ?_
    refine Ob.mk (by omega) ?_
    intro z hz
    refine ⟨dof qd, congrArg (fun n => [u32 n]) (by rw [dof_val, Nat.mod_eq_of_lt hq]), ?_⟩
    refine Ar.fit (by omega) ?_
    refine Dv.pos ⟨by omega, by omega⟩ ?_
    rw [e2]
    generalize (r * 4294967296 + x.val) % d = rd at *
    refine Ar.fit (by omega) ?_
    refine ⟨(j - 1, out.set (j - 1) (dof qd), rd), ⟨by dsimp only; omega, by simp [h2], hm, ?_⟩,
      sub_of [(0, some 0)] rfl rfl rfl ⟨congrArg (fun n => some (i64 n)) (by omega), rfl, rfl, rfl, rfl, trivial⟩ ⟨congrArg (fun n => some (dArr (out.set n _))) (by omega), trivial⟩, by dsimp only; omega⟩
    dsimp only
    rw [val_drop_cons a, dx, show j - 1 + 1 = j by omega]
    refine div_step h4 (by omega) hdm ?_
    rw [drop_set_self (by omega), dof_val, Nat.mod_eq_of_lt hq, show j - 1 + 1 = j by omega]
  · have hj : j = 0 := by omega
    subst hj
    rw [List.drop_zero, List.drop_zero] at h4
    have e1 : val out = val a / d := by
      rw [h4, Nat.mul_add_div (by omega), Nat.div_eq_of_lt h3, Nat.add_zero]
    have e2 : r = val a % d := by
      rw [h4, Nat.mul_add_mod, Nat.mod_eq_of_lt h3]
    refine CallV.see 0 _ (n_shortS out (by omega)) rfl rfl rfl ?_
    refine Ar.fit (by omega) ?_
    rw [e1]
    exact LE_tup2 .refl (LE_int (by rw [e2]))

end Go.Gs
/- Natural numbers, the program's: Knuth's guess. -/
namespace Go.Gs
open Go.Proofs

/-- The guess, made smaller while it is too large. -/
def gloop (v1 v2 u2 top : Nat) : Nat → Nat → Nat
  | 0, q => q
  | f + 1, q => if 4294967296 ≤ q ∨ (top - q * v1) * 4294967296 + u2 < q * v2 then (if 4294967296 ≤ top - (q - 1) * v1 then q - 1 else gloop v1 v2 u2 top f (q - 1)) else q

theorem gloop_ok {P v1 v2 rv top u2 ru Q : Nat} (hrv : rv < P) (hru : ru < P) (hv1 : 2147483648 ≤ v1) (hv2 : v2 < 4294967296)
    (hQd : ((top * 4294967296 + u2) * P + ru) / ((v1 * 4294967296 + v2) * P + rv) = Q) (hQ : Q < 4294967296) : ∀ (f q : Nat), q < f → q ≤ 4294967297 → q * v1 ≤ top → Q ≤ q →
      gloop v1 v2 u2 top f q = Q ∨ gloop v1 v2 u2 top f q = Q + 1
  | 0, q, h, _, _, _ => by omega
  | f + 1, q, h, hq, hle, hge => by
    unfold gloop
    have hr : q * v1 + (top - q * v1) = top := by omega
    by_cases hc : 4294967296 ≤ q ∨ (top - q * v1) * 4294967296 + u2 < q * v2
    · rw [if_pos hc]
      have hlt : Q < q := by
        rcases hc with hc | hc
        · omega
        · rw [← hQd]; exact guess_big hru hr hc
      have hq1 : (q - 1) * v1 + v1 = q * v1 := by
        have : q = (q - 1) + 1 := by omega
        rw [this, Nat.add_mul]; simp
      by_cases hb : 4294967296 ≤ top - (q - 1) * v1
      · rw [if_pos hb]
        have h1 : (q - 1) * v2 ≤ 4294967296 * 4294967295 := Nat.mul_le_mul (by omega) (by omega)
        have := guess_ok hrv hru hv1 hv2 (q := q - 1) (r := top - (q - 1) * v1) (top := top) (u2 := u2) (by omega) (by omega) (by omega) (by rw [hQd]; omega)
        rwa [hQd] at this
      · rw [if_neg hb]
        exact gloop_ok hrv hru hv1 hv2 hQd hQ f (q - 1) (by omega) (by omega) (by omega) (by omega)
    · rw [if_neg hc]
      have := guess_ok hrv hru hv1 hv2 hr (u2 := u2) (by omega) (by omega) (by rw [hQd]; exact hge)
      rwa [hQd] at this

/-- What the guess is made of: the window's and the divisor's first digits. -/
def topOf (U V : List Dig) : Nat := dig U V.length * 4294967296 + dig U (V.length - 1)
def guessN (U V : List Dig) : Nat := gloop (dig V (V.length - 1)) (dig V (V.length - 2)) (dig U (V.length - 2)) (topOf U V) (topOf U V / dig V (V.length - 1) + 1) (topOf U V / dig V (V.length - 1))

theorem top_lt {U V : List Dig} (hU : U.length = V.length + 1) (hn : 2 ≤ V.length) (hlt : val U < 4294967296 * val V) : topOf U V < (dig V (V.length - 1) + 1) * 4294967296 := by
  obtain ⟨n, hn'⟩ : ∃ n, V.length = n + 1 := ⟨V.length - 1, by omega⟩
  have e1 := val_split U n
  have e2 := val_drop_cons U n
  have e3 := val_drop_cons U (n + 1)
  rw [val_drop_out (show U.length ≤ n + 1 + 1 by omega), Nat.mul_zero, Nat.add_zero] at e3
  have f1 := val_split V n
  have f2 := val_drop_cons V n
  rw [val_drop_out (show V.length ≤ n + 1 by omega), Nat.mul_zero, Nat.add_zero] at f2
  have f3 := val_take_lt V n
  unfold topOf
  rw [hn', Nat.add_sub_cancel]
  rw [e3] at e2
  rw [e2] at e1
  rw [f2] at f1
  have hp := pow_pos' n
  generalize 4294967296 ^ n = p at *
  generalize dig U n = a at *
  generalize dig U (n + 1) = b at *
  generalize dig V n = v at *
  have h1 : p * (a + 4294967296 * b) < p * (4294967296 * (v + 1)) := by
    have h2 : p * (4294967296 * (v + 1)) = 4294967296 * (p * v + p) := by
      rw [Nat.mul_left_comm, Nat.mul_add p v 1, Nat.mul_one]
    rw [h2]
    generalize p * (a + 4294967296 * b) = X at *
    generalize p * v = Y at *
    omega
  have := Nat.lt_of_mul_lt_mul_left h1
  omega

theorem guessN_ok {U V : List Dig} (hU : U.length = V.length + 1) (hn : 2 ≤ V.length) (hv : 2147483648 ≤ dig V (V.length - 1)) (hlt : val U < 4294967296 * val V) :
    (guessN U V = val U / val V ∨ guessN U V = val U / val V + 1) ∧ val U / val V ≤ topOf U V / dig V (V.length - 1) ∧ topOf U V / dig V (V.length - 1) ≤ 4294967297 := by
  have hest := est_ge (r := U) (b := V) (by omega) hlt
  have htop := top_lt hU hn hlt
  have hVp : 0 < val V := by
    rcases Nat.eq_zero_or_pos (val V) with h | h
    · rw [h] at hlt; omega
    · exact h
  have hQ : val U / val V < 4294967296 := (Nat.div_lt_iff_lt_mul hVp).2 hlt
  have hq1 : topOf U V / dig V (V.length - 1) ≤ 4294967297 := by
    have : topOf U V / dig V (V.length - 1) < 4294967298 := by
      rw [Nat.div_lt_iff_lt_mul (by omega)]; omega
    omega
  refine ⟨?_, hest, hq1⟩
  obtain ⟨n, hn'⟩ : ∃ n, V.length = n + 2 := ⟨V.length - 2, by omega⟩
  have e1 := val_split U n
  have e2 := val_drop_cons U n
  have e3 := val_drop_cons U (n + 1)
  have e4 := val_drop_cons U (n + 1 + 1)
  rw [val_drop_out (show U.length ≤ n + 1 + 1 + 1 by omega), Nat.mul_zero, Nat.add_zero] at e4
  have e5 := val_take_lt U n
  obtain ⟨rv, r1, r2⟩ := val_two_top V n hn'
  have eU : val U = (topOf U V * 4294967296 + dig U (V.length - 2)) * 4294967296 ^ n + val (U.take n) := by
    unfold topOf
    rw [hn', show n + 2 - 1 = n + 1 by omega, show n + 2 - 2 = n by omega, e1, e2, e3, e4]
    generalize 4294967296 ^ n = p
    grind
  have eV : val V = (dig V (V.length - 1) * 4294967296 + dig V (V.length - 2)) * 4294967296 ^ n + rv := by
    rw [hn', show n + 2 - 1 = n + 1 by omega, show n + 2 - 2 = n by omega]; exact r2
  have key := gloop_ok (P := 4294967296 ^ n) (v1 := dig V (V.length - 1)) (v2 := dig V (V.length - 2)) (top := topOf U V) (u2 := dig U (V.length - 2)) (Q := val U / val V) r1 e5 hv (dig_lt _ _) (by rw [← eU, ← eV]) hQ
    (topOf U V / dig V (V.length - 1) + 1) (topOf U V / dig V (V.length - 1)) (by omega) hq1 (Nat.div_mul_le_self _ _) hest
  exact key

set_option maxRecDepth 100000 in
set_option maxHeartbeats 1000000 in
theorem n_guess (U V : List Dig) (hl : V.length ≤ 900000000) (hU : U.length = V.length + 1) (hn : 2 ≤ V.length) (hv : 2147483648 ≤ dig V (V.length - 1)) (hlt : val U < 4294967296 * val V) :
    CallsG Tryz.prog 285 [.sl dgE U, .sl dgE V] [] (u64 (guessN U V : Nat)) [] := by
  obtain ⟨_, hQ, hq⟩ := guessN_ok hU hn hv hlt
  have hG : guessN U V = gloop (dig V (V.length - 1)) (dig V (V.length - 2)) (dig U (V.length - 2)) (topOf U V) (topOf U V / dig V (V.length - 1) + 1) (topOf U V / dig V (V.length - 1)) := rfl
  refine calls_to tok mix Tryz.func285 rfl rfl rfl ?_
  intro hl1
  refine Dr.mk (by decide +kernel) ?_
  refine Ob.mk (by omega) ?_
  intro x hx
  have hx : U[V.length]? = some x := hx
  have dx := dig_some hx
  have hxl := x.isLt
  refine Ar.fit (by omega) ?_
  refine Ob.mk (by decide) ?_
  refine Ar.fit (by simp only [Int.reducePow]; omega) ?_
  refine Ar.fit (by omega) ?_
  refine Ob.mk (by omega) ?_
  intro y hy
  rw [show ((V.length : Int) - 1).toNat = V.length - 1 by omega] at hy
  have dy := dig_some hy
  have hyl := y.isLt
  refine Ar.fit (by omega) ?_
  refine ⟨_, (or_shift hxl hyl rfl).symm, ?_⟩
  have ht : topOf U V = x.val * 4294967296 + y.val := by unfold topOf; rw [dx, dy]
  rw [← ht]
  have ht2 : topOf U V < 18446744073709551616 := by omega
  generalize topOf U V = T at *
  refine Dr.mk (by decide +kernel) ?_
  refine Ar.fit (by omega) ?_
  refine Ob.mk (by omega) ?_
  intro v1 hv1
  rw [show ((V.length : Int) - 1).toNat = V.length - 1 by omega] at hv1
  have d1 := dig_some hv1
  have h1l := v1.isLt
  rw [d1] at hv hQ hq hG
  refine Ar.fit (by omega) ?_
  refine Dv.pos ⟨by omega, by omega, by show _ ≤ (18446744073709551615 : Int); omega⟩ ?_
  refine Ar.fit (by omega) ?_
  refine Ob.mk (by omega) ?_
  intro v1' hv1'
  rw [show ((V.length : Int) - 1).toNat = V.length - 1 by omega, hv1] at hv1'
  cases hv1'
  refine Ar.fit (by omega) ?_
  refine Dv.pos ⟨by omega, by omega⟩ ?_
  have hdm := Nat.div_add_mod T v1.val
  have hml : T % v1.val < v1.val := Nat.mod_lt _ (by omega)
  refine ⟨Nat × Nat × Nat, fun ⟨f, q, r⟩ => ⟨[(7, u64 q), (8, u64 r), (0, .sl dgE U), (1, .sl dgE V), (5, i64 V.length)], [], 0, 77, 0⟩,
    fun s => s.2.1 < s.1 ∧ s.2.1 ≤ 4294967297 ∧ s.2.2 < 4294967296 ∧ s.2.1 * v1.val + s.2.2 = T ∧ guessN U V = gloop v1.val (dig V (V.length - 2)) (dig U (V.length - 2)) T s.1 s.2.1, fun s => s.1,
    (T / v1.val + 1, T / v1.val, T % v1.val), ?_, ?_, ?_⟩
  · exact ⟨by dsimp only; omega, hq, by dsimp only; omega, by dsimp only; rw [Nat.mul_comm]; exact hdm, hG⟩
  · exact sub_of [] rfl rfl rfl ⟨congrArg (fun n => some (u64 n)) (by simp), congrArg (fun n => some (u64 n)) (by simp), rfl, rfl, rfl, trivial⟩ trivial
  clear hG hQ hq hdm hml ht
  rintro ⟨f, q, r⟩ ⟨g1, g2, g3, g4, g5⟩
  dsimp only at g1 g2 g3 g4 g5
  obtain ⟨f', rfl⟩ : ∃ f', f = f' + 1 := ⟨f - 1, by omega⟩
  unfold gloop at g5
  have er : T - q * v1.val = r := by omega
  rw [er] at g5
  have dec : 1 ≤ q → (q - 1) * v1.val + v1.val = q * v1.val := fun h => by
    have : q = (q - 1) + 1 := by omega
    rw [this, Nat.add_mul]; simp
  refine Dr.mk (by decide +kernel) ?_
  refine Ob.mk (by decide) ?_
  refine Br.mk (fun k1 => ?_) (fun k1 => ?_)
  · have k1 : 4294967296 ≤ q := by simp only [Int.reducePow] at k1; omega
    rw [if_pos (.inl k1)] at g5
    have hd := dec (by omega)
    have er2 : T - (q - 1) * v1.val = r + v1.val := by omega
    rw [er2] at g5
    refine Ar.fit (by omega) ?_
    refine Ar.fit (by omega) ?_
    refine Ob.mk (by omega) ?_
    intro z hz
    rw [show ((V.length : Int) - 1).toNat = V.length - 1 by omega, hv1] at hz
    cases hz
    refine Ar.fit (by omega) ?_
    refine Ar.fit (by omega) ?_
    refine Ob.mk (by decide) ?_
    refine Br.mk (fun k3 => ?_) (fun k3 => ?_)
    · rw [if_pos (by simp only [Int.reducePow] at k3; omega)] at g5
      exact LE_int (by omega)
    · rw [if_neg (by simp only [Int.reducePow] at k3; omega)] at g5
      exact ⟨(f', q - 1, r + v1.val), ⟨by dsimp only; omega, by dsimp only; omega, by dsimp only; simp only [Int.reducePow] at k3; omega, by dsimp only; omega, g5⟩,
        sub_of [] rfl rfl rfl ⟨congrArg (fun n => some (u64 n)) (by omega), rfl, rfl, rfl, rfl, trivial⟩ trivial, by dsimp only; omega⟩
  · have k1 : q < 4294967296 := by simp only [Int.reducePow] at k1; omega
    refine Ar.fit (by omega) ?_
    refine Ob.mk (by omega) ?_
    intro v2 hv2
    rw [show ((V.length : Int) - 2).toNat = V.length - 2 by omega] at hv2
    have d2 := dig_some hv2
    have h2l := v2.isLt
    have hm := mul_digs0 k1 h2l
    refine Ar.fit (by omega) ?_
    refine Ar.fit (by omega) ?_
    refine Ob.mk (by decide) ?_
    refine Ar.fit (by simp only [Int.reducePow]; omega) ?_
    refine Ar.fit (by omega) ?_
    refine Ob.mk (by omega) ?_
    intro w hw
    rw [show ((V.length : Int) - 2).toNat = V.length - 2 by omega] at hw
    have dw := dig_some hw
    have hwl := w.isLt
    refine Ar.fit (by omega) ?_
    refine ⟨_, (or_shift g3 hwl rfl).symm, ?_⟩
    rw [d2, dw] at g5
    refine Br.mk (fun k2 => ?_) (fun k2 => ?_)
    · have k2 : r * 4294967296 + w.val < q * v2.val := by
        rw [← Int.natCast_mul] at k2; omega
      have hq0 : 1 ≤ q := by
        rcases Nat.eq_zero_or_pos q with h | h
        · subst h; omega
        · exact h
      rw [if_pos (.inr k2)] at g5
      have hd := dec hq0
      have er2 : T - (q - 1) * v1.val = r + v1.val := by omega
      rw [er2] at g5
      rw [← d2, ← dw] at g5
      refine Ar.fit (by omega) ?_
      refine Ar.fit (by omega) ?_
      refine Ob.mk (by omega) ?_
      intro z hz
      rw [show ((V.length : Int) - 1).toNat = V.length - 1 by omega, hv1] at hz
      cases hz
      refine Ar.fit (by omega) ?_
      refine Ar.fit (by omega) ?_
      refine Ob.mk (by decide) ?_
      refine Br.mk (fun k3 => ?_) (fun k3 => ?_)
      · rw [if_pos (by simp only [Int.reducePow] at k3; omega)] at g5
        exact LE_int (by omega)
      · rw [if_neg (by simp only [Int.reducePow] at k3; omega)] at g5
        exact ⟨(f', q - 1, r + v1.val), ⟨by dsimp only; omega, by dsimp only; omega, by dsimp only; simp only [Int.reducePow] at k3; omega, by dsimp only; omega, g5⟩,
          sub_of [] rfl rfl rfl ⟨congrArg (fun n => some (u64 n)) (by omega), rfl, rfl, rfl, rfl, trivial⟩ trivial, by dsimp only; omega⟩
    · have k2 : ¬ (4294967296 ≤ q ∨ r * 4294967296 + w.val < q * v2.val) := by
        rw [← Int.natCast_mul] at k2; omega
      rw [if_neg k2] at g5
      exact LE_int (by rw [g5])

end Go.Gs
/- Natural numbers, the program's: a multiple taken off a part of a row. -/
namespace Go.Gs
open Go.Proofs

/-- As many digits of a number. -/
def padDigs (k n : Nat) : List Dig := (List.range k).map fun i => dof (n / 4294967296 ^ i)
theorem padDigs_len (k n : Nat) : (padDigs k n).length = k := by simp [padDigs]
theorem list_dig {xs ys : List Dig} (hl : xs.length = ys.length) (h : ∀ i, i < xs.length → dig xs i = dig ys i) : xs = ys := by
  refine List.ext_getElem hl fun i h1 h2 => Fin.ext ?_
  have := h i h1
  rwa [dig_some (List.getElem?_eq_getElem h1), dig_some (List.getElem?_eq_getElem h2)] at this
theorem pad_val (w : List Dig) : padDigs w.length (val w) = w := by
  refine list_dig (padDigs_len _ _) fun i hi => ?_
  rw [padDigs_len] at hi
  rw [dig_val w i]
  have : (padDigs w.length (val w))[i]? = some (dof (val w / 4294967296 ^ i)) := by simp [padDigs, hi]
  rw [dig_some this, dof_val]
theorem val_pad {k n : Nat} (h : n < 4294967296 ^ k) : val (padDigs k n) = n := by
  have := val_of_digs (xs := padDigs k n) (N := n) (fun j hj => by
    rw [padDigs_len] at hj
    have e : (padDigs k n)[j]? = some (dof (n / 4294967296 ^ j)) := by simp [padDigs, hj]
    rw [dig_some e, dof_val])
  rw [padDigs_len, Nat.mod_eq_of_lt h] at this
  exact this

theorem get_mid {pre w post : List Dig} {i : Nat} (h : i < w.length) : (pre ++ (w ++ post))[pre.length + i]? = w[i]? := by
  rw [List.getElem?_append_right (by omega), Nat.add_sub_cancel_left, List.getElem?_append_left h]
theorem set_mid {pre w post : List Dig} {i : Nat} {d : Dig} (h : i < w.length) : (pre ++ (w ++ post)).set (pre.length + i) d = pre ++ (w.set i d ++ post) := by
  rw [List.set_append_right _ _ (by omega), Nat.add_sub_cancel_left, List.set_append_left _ _ h]

/-- What is left of a part when a multiple is taken off; it may be negative. -/
def takeW (W V : List Dig) (q : Nat) : List Dig := padDigs W.length (if val W < q * val V then val W + 4294967296 ^ W.length - q * val V else val W - q * val V)

theorem and32' {x : Nat} {e : Int} (h : e = x) : bitsK .and .u64 e 4294967295 = ((x % 4294967296 : Nat) : Int) := by rw [h]; exact and32 x

theorem take_digit {u lo b : Nat} (hu : u < 4294967296) (hl : lo < 4294967296) (hb : b ≤ 1) :
    ((dof (8589934592 + u - lo - b)).val : Int) = IntKind.u32.wrap (IntKind.u64.wrap (IntKind.u64.wrap ((u : Int) - lo) - b)) ∧
    IntKind.u64.wrap (IntKind.u64.wrap ((u : Int) - lo) - b) / 2 ^ 63 = (((if u < lo + b then 1 else 0 : Nat)) : Int) ∧
    (8589934592 + u - lo - b) % 4294967296 + lo + b = u + 4294967296 * (if u < lo + b then 1 else 0) := by
  rw [wrap32, wrap64, wrap64, dof_val]
  simp only [Int.reducePow]
  refine ⟨by omega, ?_, ?_⟩
  · split <;> omega
  · split <;> omega

set_option maxRecDepth 100000 in
set_option maxHeartbeats 1000000 in
theorem n_take (pre W post V : List Dig) (q : Nat) (hW : W.length = V.length + 1) (hq : q ≤ 4294967296) :
    CallsG Tryz.prog 286 [.win 0 1 (pre.length : Int) (W.length : Int), .sl dgE V, u64 q] [(0, dArr (pre ++ (W ++ post)))] (pr (val W < q * val V)) [(0, dArr (pre ++ (takeW W V q ++ post)))] := by
  refine calls_mut tok mix Tryz.func286 rfl rfl rfl (dArr_flat _) rfl ?_
  intro hl0
  refine ⟨Nat × List Dig × Nat × Nat, fun ⟨i, w, c, b⟩ => ⟨[(15, i64 i), (14, i64 V.length), (13, .sl dgE V), (7, u64 c), (8, u64 b), (0, .win 0 1 (pre.length : Int) (W.length : Int)), (1, .sl dgE V), (2, u64 q)], [(0, dArr (pre ++ (w ++ post)))], 1, 65, 1⟩,
    fun s => s.1 ≤ V.length ∧ s.2.1.length = W.length ∧ s.2.2.1 < 4294967296 ∧ s.2.2.2 ≤ 1 ∧ (∀ j, s.1 ≤ j → dig s.2.1 j = dig W j) ∧ val (s.2.1.take s.1) + q * val (V.take s.1) = val (W.take s.1) + 4294967296 ^ s.1 * (s.2.2.1 + s.2.2.2),
    fun s => V.length - s.1, (0, W, 0, 0), ?_, ?_, ?_⟩
  · exact ⟨Nat.zero_le _, rfl, by dsimp only; omega, Nat.zero_le _, fun _ _ => rfl, by simp [val]⟩
  · exact sub_of [(0, some 0)] rfl rfl rfl ⟨rfl, rfl, rfl, rfl, rfl, rfl, rfl, rfl, trivial⟩ ⟨rfl, trivial⟩
  rintro ⟨i, w, c, b⟩ ⟨h1, h2, h3, h4, h5, h6⟩
  dsimp only at h1 h2 h3 h4 h5 h6
  have hll : (pre ++ (w ++ post)).length = pre.length + W.length + post.length := by simp [h2]; omega
  refine Br.mk (fun k1 => ?_) (fun k1 => ?_)
  · refine Ob.mk (by omega) ?_
    intro y hy
    have hy : V[i]? = some y := hy
    have dy := dig_some hy
    have hyl := y.isLt
    have hm : q * y.val ≤ 4294967296 * 4294967295 := Nat.mul_le_mul hq (by omega)
    refine Ar.fit (by omega) ?_
    refine Ar.fit (by rw [← Int.natCast_mul]; omega) ?_
    refine Ar.fit (by rw [← Int.natCast_mul]; omega) ?_
    refine Ob.mk ⟨by omega, by omega, by omega⟩ ?_
    refine Ob.mk (by rw [hll]; omega) ?_
    intro u hu
    have hu : w[i]? = some u := by rw [← get_mid (pre := pre) (post := post) (by omega), ← hu]; congr 1
    have du := dig_some hu
    have hul := u.isLt
    refine Ar.fit (by omega) ?_
    have ex : (c : Int) + (q : Int) * (y.val : Int) = ((c + q * y.val : Nat) : Int) := by simp
    refine ⟨_, (and32' ex).symm, ?_⟩
    rw [ex]
    generalize hX : c + q * y.val = X at *
    obtain ⟨t1, t2, t3⟩ := take_digit (u := u.val) (lo := X % 4294967296) (b := b) hul (Nat.mod_lt _ (by decide)) h4
    refine Ar.wrap ?_
    refine Ar.wrap ?_
    refine Ar.wrap ?_
    refine Ob.mk ⟨by omega, by omega, by omega⟩ ?_
    refine Ob.mk (by rw [hll]; omega) ?_
    intro z hz
    refine ⟨dof (8589934592 + u.val - X % 4294967296 - b), congrArg (fun n => [u32 n]) t1, ?_⟩
    refine Ob.mk (by decide) ?_
    refine Ob.mk (by decide) ?_
    refine Ar.fit (by omega) ?_
    generalize (if u.val < X % 4294967296 + b then 1 else 0) = b' at *
    have hb' : b' ≤ 1 := by omega
    refine ⟨(i + 1, w.set i (dof (8589934592 + u.val - X % 4294967296 - b)), X / 4294967296, b'), ⟨by dsimp only; omega, by simp [h2], by dsimp only; omega, hb', fun j hj => ?_, ?_⟩,
      sub_of [(0, some 0)] rfl rfl rfl ⟨rfl, rfl, rfl, congrArg (fun n => some (u64 n)) (by simp only [Int.reducePow]; omega), congrArg (fun n => some (u64 n)) t2, rfl, rfl, rfl, trivial⟩
        ⟨congrArg (fun l => some (dArr l)) (by rw [← set_mid (by omega)]; congr 1), trivial⟩, by dsimp only; omega⟩
    · dsimp only at hj ⊢
      rw [dig_set, if_neg (by omega)]; exact h5 j (by omega)
    · dsimp only
      rw [val_take_succ, val_take_succ, val_take_succ, Nat.pow_succ, dy, dig_set, if_pos ⟨rfl, by omega⟩, dof_val, ← h5 i (Nat.le_refl _), du]
      have ht : (w.set i (dof (8589934592 + u.val - X % 4294967296 - b))).take i = w.take i := by rw [List.take_set_of_le (by omega)]
      rw [ht]
      have hd := Nat.div_add_mod X 4294967296
      exact take_step h6 (by omega) t3
  · have hi : i = V.length := by omega
    subst hi
    intro hl9
    refine Ob.mk ⟨by omega, by omega, by omega⟩ ?_
    refine Ob.mk (by rw [hll]; omega) ?_
    intro u hu
    have hu : w[V.length]? = some u := by rw [← get_mid (pre := pre) (post := post) (by omega), ← hu]; congr 1
    have du := dig_some hu
    have hul := u.isLt
    refine Ar.fit (by omega) ?_
    obtain ⟨t1, t2, t3⟩ := take_digit (u := u.val) (lo := c) (b := b) hul h3 h4
    refine Ar.wrap ?_
    refine Ar.wrap ?_
    intro hl10
    refine Ar.wrap ?_
    refine Ob.mk ⟨by omega, by omega, by omega⟩ ?_
    refine Ob.mk (by rw [hll]; omega) ?_
    intro z hz
    refine ⟨dof (8589934592 + u.val - c - b), congrArg (fun n => [u32 n]) t1, ?_⟩
    refine Ob.mk (by decide) ?_
    have ev : val (w.set V.length (dof (8589934592 + u.val - c - b))) + q * val V = val W + 4294967296 ^ W.length * (if u.val < c + b then 1 else 0) := by
      have e1 := val_set w V.length (dof (8589934592 + u.val - c - b)) (by omega)
      have e2 := val_split w V.length
      have e3 := val_drop_cons w V.length
      rw [val_drop_out (show w.length ≤ V.length + 1 by omega), Nat.mul_zero, Nat.add_zero] at e3
      rw [e3] at e2
      have f2 := val_split W V.length
      have f3 := val_drop_cons W V.length
      rw [val_drop_out (show W.length ≤ V.length + 1 by omega), Nat.mul_zero, Nat.add_zero] at f3
      rw [f3] at f2
      rw [val_take_all (Nat.le_refl V.length)] at h6
      rw [hW, Nat.pow_succ, f2, ← h5 _ (Nat.le_refl _), du]
      rw [du] at e1 e2
      rw [dof_val] at e1
      generalize (if u.val < c + b then 1 else 0) = b' at *
      generalize (8589934592 + u.val - c - b) % 4294967296 = u' at *
      generalize 4294967296 ^ V.length = p at *
      have e4 : p * (u' + c + b) = p * (u.val + 4294967296 * b') := by rw [t3]
      generalize u.val = u at *
      generalize val (w.take V.length) = wt at *
      generalize val (W.take V.length) = Wt at *
      generalize q * val V = qv at *
      clear h5 t1 t2
      grind
    have hvl := val_lt (w.set V.length (dof (8589934592 + u.val - c - b)))
    rw [List.length_set, h2] at hvl
    have hneg : (u.val < c + b) ↔ val W < q * val V := by
      constructor
      · intro h
        rw [if_pos h] at ev
        omega
      · intro h
        by_cases hh : u.val < c + b
        · exact hh
        · rw [if_neg hh] at ev
          omega
    have hfin : w.set V.length (dof (8589934592 + u.val - c - b)) = takeW W V q := by
      rw [← pad_val (w.set V.length (dof (8589934592 + u.val - c - b)))]
      unfold takeW
      rw [List.length_set, h2]
      congr 1
      by_cases hh : val W < q * val V
      · rw [if_pos hh]
        rw [if_pos (hneg.2 hh)] at ev
        omega
      · rw [if_neg hh]
        rw [if_neg (fun h => hh (hneg.1 h))] at ev
        omega
    refine ⟨congrArg (fun l => some (dArr l)) ?_, LE_pr ?_⟩
    · rw [← hfin, ← set_mid (by omega)]; congr 1
    · rw [t2, ← hneg]
      by_cases hh : u.val < c + b
      · simp [hh]
      · simp [hh]

end Go.Gs
/- Natural numbers, the program's: shifts, binary digits. -/
namespace Go.Gs
open Go.Proofs

theorem LE_nil_full {α : Type} {enc : α → List SV} : LE (.val (.slice none 0 0)) (.full enc []) := fun S Pm ρ w v hg => by
  rw [hg.val_inv]; exact .d _ _ (.full enc [] none (.nil enc none))

theorem or32 {x y : Nat} (hx : x < 4294967296) (hy : y < 4294967296) : bitsK .or .u32 x y = ((x ||| y : Nat) : Int) := by
  show IntKind.u32.wrap ((BitVec.ofInt 32 x ||| BitVec.ofInt 32 y).toNat : Nat) = _
  have h : x ||| y < 2 ^ 32 := Nat.or_lt_two_pow hx hy
  have e : (BitVec.ofInt 32 x ||| BitVec.ofInt 32 y).toNat = x ||| y := by
    rw [BitVec.toNat_or, BitVec.toNat_ofInt, BitVec.toNat_ofInt]
    congr 1
    · omega
    · omega
  rw [e, wrap32]; omega
/-- The low part of a shifted digit beside what came over. -/
theorem or_low {c x s p : Nat} (hp : p < 32) (hs : 2 ^ p = s) (hc : c < s) : c ||| (x * s % 4294967296) = c + x * s % 4294967296 ∧ c + x * s % 4294967296 < 4294967296 := by
  have h32 : 4294967296 = s * 2 ^ (32 - p) := by rw [← hs, ← Nat.pow_add, show p + (32 - p) = 32 by omega]
  have hm : x * s % 4294967296 = s * (x % 2 ^ (32 - p)) := by rw [h32, Nat.mul_comm x s, Nat.mul_mod_mul_left]
  have hlt : x % 2 ^ (32 - p) < 2 ^ (32 - p) := Nat.mod_lt _ (Nat.pow_pos (by decide))
  have h1 := Nat.two_pow_add_eq_or_of_lt (i := p) (b := c) (by rw [hs]; exact hc) (x % 2 ^ (32 - p))
  rw [hs] at h1
  rw [hm, Nat.or_comm, ← h1]
  have h2 : s * (x % 2 ^ (32 - p)) + s ≤ s * 2 ^ (32 - p) := by
    rw [← Nat.mul_succ]; exact Nat.mul_le_mul_left _ hlt
  rw [← h32] at h2
  exact ⟨by omega, by omega⟩
theorem or_high {x y : Nat} {e : Int} (hx : x < 4294967296) (hy : y < 4294967296) (he : e = (y : Int) * 2 ^ 32) : bitsK .or .u64 x e = ((y * 4294967296 + x : Nat) : Int) := by
  have h1 : e = ((y * 4294967296 : Nat) : Int) := by rw [he]; simp only [Int.reducePow]; omega
  rw [h1, or_nat (by omega) (by omega), Nat.or_comm]
  have := Nat.two_pow_add_eq_or_of_lt (i := 32) (b := x) (by rw [show 2 ^ 32 = 4294967296 by decide]; exact hx) y
  rw [show 2 ^ 32 = 4294967296 by decide, Nat.mul_comm] at this
  rw [← this]

theorem shl_step {p w s v x lo hi o o1 o2 q : Nat} (h : o = w * (s * v)) (h1 : o1 + p * w * q = o + p * w * (q + lo)) (h2 : o2 = o1 + p * w * 4294967296 * hi) (e : 4294967296 * hi + lo = x * s) : o2 = w * (s * (v + p * x)) := by
  subst h2; subst h
  have : o1 = w * (s * v) + p * w * lo := by
    rw [Nat.mul_add (p * w) q lo] at h1; omega
  subst this
  grind

set_option maxRecDepth 100000 in
set_option maxHeartbeats 1000000 in
theorem n_shl (a0 : List Dig) (n : Nat) (ha : a0.length ≤ 800000000) (hn : n ≤ 4096) :
    CallsG Tryz.prog 247 [.sl dgE a0, i64 n] [] (.full dgE (digs (val a0 * 2 ^ n))) [] := by
  refine calls_to tok mix Tryz.func247 rfl rfl rfl ?_
  refine CallV.to _ (n_shortS a0 (by omega)) rfl ?_
  have la := digs_val_len a0
  have va := val_digs (val a0)
  generalize digs (val a0) = a at *
  rw [← va]
  clear va
  have hs0 : 2 ^ (n % 32) ≤ 2 ^ 31 := Nat.pow_le_pow_right (by decide) (by omega)
  have hs1 : 0 < 2 ^ (n % 32) := Nat.pow_pos (by decide)
  generalize hs : 2 ^ (n % 32) = s at *
  refine Br.mk (fun h => by omega) (fun h => ?_)
  have em : minL (n : Int) [4096] = n := by simp only [minL]; omega
  change Dv _ _ _ _
  rw [em]
  refine Dv.pos ⟨by omega, by omega, by show _ ≤ (9223372036854775807 : Int); omega⟩ ?_
  refine Dv.pos ⟨by omega, by omega⟩ ?_
  intro hl7
  refine Ar.fit (by omega) ?_
  refine Ar.fit (by omega) ?_
  refine ⟨Dig, dgE, 0, rfl, Ob.mk ⟨by decide, by omega, by omega, (by show _ * (4 : Int) ≤ _; omega), by omega⟩ ?_⟩
  intro hl8
  refine ⟨Nat × List Dig, fun ⟨i, out⟩ => ⟨[(76, i64 i), (75, i64 a.length), (74, .sl dgE a), (9, i64 (n / 32 : Nat)), (10, i64 (n % 32 : Nat)), (11, .own 0)], [(0, dArr out)], 1, 107, 0⟩,
    fun q => q.1 ≤ a.length ∧ q.2.length = a.length + n / 32 + 1 ∧ (∀ j, q.1 + n / 32 < j → dig q.2 j = 0) ∧ dig q.2 (q.1 + n / 32) < s ∧ val q.2 = 4294967296 ^ (n / 32) * (s * val (a.take q.1)), fun q => a.length - q.1, (0, List.replicate (a.length + n / 32 + 1) 0), ?_, ?_, ?_⟩
  · refine ⟨Nat.zero_le _, by simp, fun j _ => dig_replicate _ _, by dsimp only; rw [dig_replicate]; exact hs1, by simp [val_zeros, val]⟩
  · exact sub_of [(0, some 0)] rfl rfl rfl ⟨rfl, rfl, rfl, congrArg (fun n => some (i64 n)) (by omega), congrArg (fun n => some (i64 n)) (by omega), rfl, trivial⟩ ⟨congrArg (fun n => some (dArr (List.replicate n 0))) (by omega), trivial⟩
  rintro ⟨i, out⟩ ⟨h1, h2, h3, h4, h5⟩
  dsimp only at h1 h2 h3 h4 h5
  refine Br.mk (fun h9 => ?_) (fun h9 => ?_)
  · refine Ob.mk (by omega) ?_
    intro x hx
    have hx : a[i]? = some x := hx
    have dx := dig_some hx
    have hxl := x.isLt
    refine Ar.fit (by omega) ?_
    refine Ob.mk (by show _ ∧ _ < (64 : Int); omega) ?_
    have hm : x.val * s ≤ 4294967295 * 2 ^ 31 := Nat.mul_le_mul (by omega) hs0
    have hm2 : (x.val : Int) * 2 ^ ((n % 32 : Nat) : Int).toNat = ((x.val * s : Nat) : Int) := by
      rw [← hs, Int.toNat_natCast]; simp
    have hm3 : x.val * s < 4294967296 * s := Nat.mul_lt_mul_of_pos_right hxl hs1
    refine Ar.fit (by rw [hm2]; omega) ?_
    rw [hm2]
    refine Ar.fit (by omega) ?_
    refine Ob.mk (by omega) ?_
    refine Ob.mk (by omega) ?_
    intro c hc
    rw [show ((i : Int) + (n / 32 : Nat)).toNat = i + n / 32 by omega] at hc
    have dc := dig_some hc
    have hcl := c.isLt
    rw [dc] at h4
    obtain ⟨o1, o2⟩ := or_low (c := c.val) (x := x.val) (s := s) (p := n % 32) (by omega) hs h4
    refine Ar.wrap ?_
    have ew : IntKind.u32.wrap ((x.val * s : Nat) : Int) = ((x.val * s % 4294967296 : Nat) : Int) := by rw [wrap32]; omega
    rw [ew]
    refine ⟨_, (or32 hcl (Nat.mod_lt _ (by decide))).symm, ?_⟩
    rw [o1]
    refine Ob.mk (by omega) ?_
    refine Ob.mk (by omega) ?_
    intro z hz
    refine ⟨dof (c.val + x.val * s % 4294967296), congrArg (fun n => [u32 n]) (by rw [dof_val, Nat.mod_eq_of_lt o2]), ?_⟩
    refine Ar.fit (by omega) ?_
    refine Ar.fit (by omega) ?_
    refine Ob.mk (by decide) ?_
    refine Ar.wrap ?_
    refine Ob.mk (by rw [List.length_set]; omega) ?_
    refine Ob.mk (by rw [List.length_set]; omega) ?_
    intro z2 hz2
    have hhi : x.val * s / 4294967296 < s := by rw [Nat.div_lt_iff_lt_mul (by decide)]; omega
    refine ⟨dof (x.val * s / 4294967296), congrArg (fun n => [u32 n]) (dofW (by simp only [Int.reducePow]; omega)), ?_⟩
    refine Ar.fit (by omega) ?_
    have ei : ((i : Int) + (n / 32 : Nat)).toNat = i + n / 32 := by omega
    have ei1 : ((i : Int) + (n / 32 : Nat) + 1).toNat = i + n / 32 + 1 := by omega
    refine ⟨(i + 1, (out.set (i + n / 32) (dof (c.val + x.val * s % 4294967296))).set (i + n / 32 + 1) (dof (x.val * s / 4294967296))), ⟨by dsimp only; omega, by simp [h2], fun j hj => ?_, ?_, ?_⟩,
      sub_of [(0, some 0)] rfl rfl rfl ⟨rfl, rfl, rfl, rfl, rfl, rfl, trivial⟩ ⟨congrArg (fun l => some (dArr l)) (by rw [ei, ei1]), trivial⟩, by dsimp only; omega⟩
    · dsimp only at hj ⊢
      rw [dig_set, if_neg (by omega), dig_set, if_neg (by omega)]; exact h3 j (by omega)
    · dsimp only
      rw [show i + 1 + n / 32 = i + n / 32 + 1 by omega, dig_set, if_pos ⟨rfl, by rw [List.length_set]; omega⟩, dof_val, Nat.mod_eq_of_lt (by omega)]
      exact hhi
    · dsimp only
      have s1 := val_set out (i + n / 32) (dof (c.val + x.val * s % 4294967296)) (by omega)
      have s2 := val_set (out.set (i + n / 32) (dof (c.val + x.val * s % 4294967296))) (i + n / 32 + 1) (dof (x.val * s / 4294967296)) (by rw [List.length_set]; omega)
      rw [dof_val, Nat.mod_eq_of_lt o2, dc, Nat.pow_add] at s1
      have hmm : x.val * s / 4294967296 % 4294967296 = x.val * s / 4294967296 := Nat.mod_eq_of_lt (by omega)
      rw [dig_set, if_neg (by omega), h3 _ (by omega), Nat.mul_zero, Nat.add_zero, dof_val, hmm, Nat.pow_succ, Nat.pow_add] at s2
      rw [val_take_succ, dx]
      exact shl_step h5 s1 s2 (Nat.div_add_mod _ _)
  · have hi : i = a.length := by omega
    subst hi
    rw [val_take_all (Nat.le_refl _), ← hs, pow32, ← Nat.mul_assoc, ← Nat.pow_add, show 32 * (n / 32) + n % 32 = n by omega, Nat.mul_comm] at h5
    refine CallV.see 0 _ (n_short out (by omega)) rfl rfl rfl ?_
    rw [h5]
    exact .refl

set_option maxRecDepth 100000 in
set_option maxHeartbeats 1000000 in
theorem n_shr (a0 : List Dig) (n : Nat) (ha : a0.length ≤ 800000000) (hn : n ≤ 1000000000000) (hn0 : n ≠ 0) :
    CallsG Tryz.prog 247 [.sl dgE a0, i64 (-(n : Int))] [] (.full dgE (digs (val a0 / 2 ^ n))) [] := by
  refine calls_to tok mix Tryz.func247 rfl rfl rfl ?_
  refine CallV.to _ (n_shortS a0 (by omega)) rfl ?_
  have la := digs_val_len a0
  have va := val_digs (val a0)
  generalize digs (val a0) = a at *
  rw [← va]
  clear va
  refine Br.mk (fun h => ?_) (fun h => by omega)
  intro hl2
  refine Ar.fit (by omega) ?_
  refine Br.mk (fun h3 => ?_) (fun h3 => ?_)
  · have e : val a / 2 ^ n = 0 := by
      refine Nat.div_eq_of_lt (Nat.lt_of_lt_of_le (val_lt a) ?_)
      rw [pow32]
      exact Nat.pow_le_pow_right (by decide) (by omega)
    rw [e, digs_zero]; exact LE_nil_full
  refine Ar.fit (by omega) ?_
  refine Dv.pos ⟨by omega, by omega, by show _ ≤ (9223372036854775807 : Int); omega⟩ ?_
  refine Ar.fit (by omega) ?_
  refine Dv.pos ⟨by omega, by omega⟩ ?_
  intro hl4
  refine Ar.fit (by omega) ?_
  refine ⟨Dig, dgE, 0, rfl, Ob.mk ⟨by decide, by omega, by omega, (by show _ * (4 : Int) ≤ _; omega), by omega⟩ ?_⟩
  intro hl5
  refine ⟨Nat × List Dig, fun ⟨i, out⟩ => ⟨[(37, i64 i), (36, i64 (a.length - n / 32 : Nat)), (0, .sl dgE a), (5, i64 (n / 32 : Nat)), (6, i64 (n % 32 : Nat)), (7, .own 0)], [(0, dArr out)], 1, 107, 0⟩,
    fun q => q.1 ≤ a.length - n / 32 ∧ q.2.length = a.length - n / 32 ∧ ∀ j, j < q.1 → dig q.2 j = val a / 2 ^ n / 4294967296 ^ j % 4294967296, fun q => a.length - n / 32 - q.1, (0, List.replicate (a.length - n / 32) 0), ?_, ?_, ?_⟩
  · exact ⟨Nat.zero_le _, by simp, fun j h => by dsimp only at h; omega⟩
  · exact sub_of [(0, some 0)] rfl rfl rfl ⟨rfl, congrArg (fun n => some (i64 n)) (by simp; omega), rfl, congrArg (fun n => some (i64 n)) (by omega), congrArg (fun n => some (i64 n)) (by omega), rfl, trivial⟩ ⟨congrArg (fun n => some (dArr (List.replicate n 0))) (by omega), trivial⟩
  rintro ⟨i, out⟩ ⟨g1, g2, g3⟩
  dsimp only at g1 g2 g3
  refine Br.mk (fun h6 => ?_) (fun h6 => ?_)
  · have d1 := dig_lt a (n / 32 + i)
    have d2 := dig_lt a (n / 32 + i + 1)
    refine Ar.fit (by omega) ?_
    refine CallV.to _ (n_digit a _ (by omega)) rfl ?_
    rw [show ((i : Int) + (n / 32 : Nat)).toNat = n / 32 + i by omega]
    refine Ar.fit (by omega) ?_
    refine Ar.fit (by omega) ?_
    refine CallV.to _ (n_digit a _ (by omega)) rfl ?_
    rw [show ((i : Int) + (n / 32 : Nat) + 1).toNat = n / 32 + i + 1 by omega]
    refine Ob.mk (by decide) ?_
    refine Ar.fit (by simp only [Int.reducePow]; omega) ?_
    refine ⟨_, (or_high d1 d2 rfl).symm, ?_⟩
    refine Ob.mk (by show _ ∧ _ < (64 : Int); omega) ?_
    refine Ar.wrap ?_
    refine Ob.mk (by omega) ?_
    refine Ob.mk (by omega) ?_
    intro z hz
    refine ⟨dof ((dig a (n / 32 + i + 1) * 4294967296 + dig a (n / 32 + i)) / 2 ^ (n % 32)), congrArg (fun n => [u32 n]) (dofW (by rw [Int.toNat_natCast]; simp)), ?_⟩
    refine Ar.fit (by omega) ?_
    refine ⟨(i + 1, out.set i (dof ((dig a (n / 32 + i + 1) * 4294967296 + dig a (n / 32 + i)) / 2 ^ (n % 32)))), ⟨by dsimp only; omega, by simp [g2], fun j hj => ?_⟩,
      sub_of [(0, some 0)] rfl rfl rfl ⟨rfl, rfl, rfl, rfl, rfl, rfl, trivial⟩ ⟨rfl, trivial⟩, by dsimp only; omega⟩
    dsimp only at hj ⊢
    by_cases e : i = j
    · subst e
      rw [dig_set, if_pos ⟨rfl, by omega⟩, dof_val]
      have := shr_dig a (n / 32) (n % 32) i (by omega)
      rw [show 32 * (n / 32) + n % 32 = n by omega] at this
      rw [this]
    · rw [dig_set, if_neg (fun h => e h.1)]; exact g3 j (by omega)
  · have hi : i = a.length - n / 32 := by omega
    have e : val out = val a / 2 ^ n := by
      rw [val_of_digs (fun j hj => g3 j (by omega)), Nat.mod_eq_of_lt]
      rw [Nat.div_lt_iff_lt_mul (Nat.pow_pos (by decide))]
      refine Nat.lt_of_lt_of_le (val_lt a) ?_
      rw [pow32, pow32, ← Nat.pow_add]
      exact Nat.pow_le_pow_right (by decide) (by omega)
    refine CallV.see 0 _ (n_short out (by omega)) rfl rfl rfl ?_
    rw [e]
    exact .refl

end Go.Gs
/- Natural numbers, the program's: how many binary digits. -/
namespace Go.Gs
open Go.Proofs

theorem tab_at {s : ByteArray} {i : Nat} {b : UInt8} (hb : s[i]? = some b) (hi : i < s.size) (key : ∀ h : i < s.size, (s[i]'h).toNat = bitLen i) : b.toNat = nbits i := by
  have e := getElem?_pos s i hi
  rw [hb] at e
  rw [Option.some.inj e]; exact key hi
theorem nbits_shift {x : Nat} (b : Nat) (h : 2 ^ b ≤ x) : nbits x = b + nbits (x / 2 ^ b) :=
  bitLen_shift x b (Nat.ne_of_gt (Nat.div_pos h (Nat.pow_pos (by decide))))

set_option maxRecDepth 100000 in
theorem n_len32 (x : Nat) (hx : x < 4294967296) : CallsG Tryz.prog 291 [u32 x] [] (i64 (nbits x)) [] := by
  refine calls_to tok mix Tryz.func291 rfl rfl rfl ?_
  have fin : ∀ (y : Nat) (k : Int), y < 256 → (nbits x : Int) = k + nbits y → ∀ b : UInt8, b.toNat = nbits y → (k + (b.toNat : Int)) = nbits x := fun y k _ h b hb => by rw [h, hb]
  have small : ∀ y : Nat, y < 256 → nbits y ≤ 8 := fun y hy => bitLen_le8 y hy
  refine Br.mk (fun h1 => ?_) (fun h1 => ?_)
  · refine Ob.mk (by decide) ?_
    have e1 : (x : Int) / 2 ^ 16 = ((x / 65536 : Nat) : Int) := by simp
    rw [e1]
    have n1 := nbits_shift (x := x) 16 (by omega)
    rw [show (2 : Nat) ^ 16 = 65536 by decide] at n1
    have hx1 : x / 65536 < 65536 := by omega
    generalize x / 65536 = y at *
    refine Br.mk (fun h2 => ?_) (fun h2 => ?_)
    · refine Ob.mk (by decide) ?_
      have e2 : (y : Int) / 2 ^ 8 = ((y / 256 : Nat) : Int) := by simp
      rw [e2]
      have n2 := nbits_shift (x := y) 8 (by omega)
      rw [show (2 : Nat) ^ 8 = 256 by decide] at n2
      have hy1 : y / 256 < 256 := by omega
      generalize y / 256 = z at *
      refine Ar.fit (by omega) ?_
      refine Ar.fit (by omega) ?_
      refine Ob.mk ⟨by omega, by show _ < ((256 : Nat) : Int); omega⟩ ?_
      intro b hb
      have hb' : b.toNat = nbits z := tab_at hb (by show z < 256; exact hy1) (fun h => len8tab_get z h)
      have := small z hy1
      refine Ar.fit (by omega) ?_
      refine Ar.fit (by omega) ?_
      exact LE_int (by omega)
    · have hy1 : y < 256 := by omega
      refine Ar.fit (by omega) ?_
      refine Ob.mk ⟨by omega, by show _ < ((256 : Nat) : Int); omega⟩ ?_
      intro b hb
      have hb' : b.toNat = nbits y := tab_at hb (by show y < 256; exact hy1) (fun h => len8tab_get y h)
      have := small y hy1
      refine Ar.fit (by omega) ?_
      refine Ar.fit (by omega) ?_
      exact LE_int (by omega)
  · refine Br.mk (fun h2 => ?_) (fun h2 => ?_)
    · refine Ob.mk (by decide) ?_
      have e2 : (x : Int) / 2 ^ 8 = ((x / 256 : Nat) : Int) := by simp
      rw [e2]
      have n2 := nbits_shift (x := x) 8 (by omega)
      rw [show (2 : Nat) ^ 8 = 256 by decide] at n2
      have hy1 : x / 256 < 256 := by omega
      generalize x / 256 = z at *
      refine Ar.fit (by omega) ?_
      refine Ar.fit (by omega) ?_
      refine Ob.mk ⟨by omega, by show _ < ((256 : Nat) : Int); omega⟩ ?_
      intro b hb
      have hb' : b.toNat = nbits z := tab_at hb (by show z < 256; exact hy1) (fun h => len8tab_get z h)
      have := small z hy1
      refine Ar.fit (by omega) ?_
      refine Ar.fit (by omega) ?_
      exact LE_int (by omega)
    · have hy1 : x < 256 := by omega
      refine Ar.fit (by omega) ?_
      refine Ob.mk ⟨by omega, by show _ < ((256 : Nat) : Int); omega⟩ ?_
      intro b hb
      have hb' : b.toNat = nbits x := tab_at hb (by show x < 256; exact hy1) (fun h => len8tab_get x h)
      have := small x hy1
      refine Ar.fit (by omega) ?_
      refine Ar.fit (by omega) ?_
      exact LE_int (by omega)

theorem nbits32 {x : Nat} (hx : x < 4294967296) : nbits x ≤ 32 := by
  by_cases h : x = 0
  · subst h; decide
  · have := nbits_ge h
    have := (Nat.pow_lt_pow_iff_right (by decide : 1 < 2)).1 (Nat.lt_of_le_of_lt this (show x < 2 ^ 32 from hx))
    omega

theorem n_lz32 (x : Nat) (hx : x < 4294967296) : CallsG Tryz.prog 284 [u32 x] [] (i64 (32 - nbits x : Nat)) [] := by
  refine calls_to tok mix Tryz.func284 rfl rfl rfl ?_
  refine CallV.to _ (n_len32 x hx) rfl ?_
  have := nbits32 hx
  refine Ar.fit (by omega) ?_
  exact LE_int (by omega)

theorem n_bitlen (a : List Dig) (ha : a.length ≤ 900000000) : CallsG Tryz.prog 246 [.sl dgE a] [] (i64 (nbits (val a))) [] := by
  refine calls_to tok mix Tryz.func246 rfl rfl rfl ?_
  refine CallV.to _ (n_shortS _ (by omega)) rfl ?_
  intro hl
  have hlen := digs_val_len a
  refine Br.mk (fun h => ?_) (fun h => ?_)
  · have : digs (val a) = [] := List.length_eq_zero_iff.1 (by omega)
    exact LE_int (by rw [digs_nil.1 this]; rfl)
  have hne : digs (val a) ≠ [] := fun e => h (by rw [e]; rfl)
  have hn := (normd_digs (val a)).resolve_left hne
  have htop := nbits_top hn
  rw [val_digs] at htop
  intro hl2
  refine Ar.fit (by omega) ?_
  refine Ar.fit (by omega) ?_
  intro hl3
  refine Ar.fit (by omega) ?_
  refine Ob.mk (by omega) ?_
  intro x hx
  rw [show (((digs (val a)).length : Int) - 1).toNat = (digs (val a)).length - 1 by omega] at hx
  have dx := dig_some hx
  have hxl := x.isLt
  refine CallV.to _ (n_len32 x.val hxl) rfl ?_
  rw [dx] at htop
  have := nbits32 hxl
  refine Ar.fit (by omega) ?_
  exact LE_int (by omega)

theorem n_shrS (a : List Dig) (n : Nat) (ha : a.length ≤ 800000000) (hn : n ≤ 1000000000000) :
    CallsG Tryz.prog 247 [.sl dgE a, i64 (-(n : Int))] [] (.sl dgE (digs (val a / 2 ^ n))) [] := by
  by_cases h : n = 0
  · subst h
    have := (n_shl a 0 ha (by omega)).le (LE_full_sl rfl)
    rw [Nat.pow_zero, Nat.mul_one] at this
    rw [Nat.pow_zero, Nat.div_one]
    exact this
  · exact (n_shr a n ha hn h).le (LE_full_sl rfl)
theorem n_shlS (a : List Dig) (n : Nat) (ha : a.length ≤ 800000000) (hn : n ≤ 4096) :
    CallsG Tryz.prog 247 [.sl dgE a, i64 n] [] (.sl dgE (digs (val a * 2 ^ n))) [] := (n_shl a n ha hn).le (LE_full_sl rfl)

end Go.Gs
