/- Natural numbers, the other text: binary digits, shifts. -/
import Derived.Test.YtlhelkkfjniioaaPN2
namespace Go.Gs
open Go.Proofs

theorem nbits_val_le (a : List Dig) : nbits (val a) ≤ 32 * a.length := by
  by_cases h : val a = 0
  · rw [h, nbits_zero]; omega
  · have h1 := nbits_ge h
    have h2 := val_lt a
    rw [pow32] at h2
    have := (Nat.pow_lt_pow_iff_right (by decide : 1 < 2)).1 (Nat.lt_of_le_of_lt h1 h2)
    omega

theorem r1_bitlen (a : List Dig) (ha : a.length ≤ 900000000) : CallsG Try.prog 141 [.sl dgE a] [] (i64 (nbits (val a))) [] := by
  refine calls_to tok mix Try.func141 rfl rfl rfl ?_
  refine CallV.to _ (r1_normalizeP _ (by omega)) rfl ?_
  intro hl
  have hlen := digs_val_len a
  refine Br.mk (fun h => ?_) (fun h => ?_)
  · have : digs (val a) = [] := List.length_eq_zero_iff.1 (by omega)
    exact LE_int (by rw [digs_nil.1 this]; rfl)
  have hne : digs (val a) ≠ [] := fun e => h (by rw [e]; rfl)
  have hn := (normd_digs (val a)).resolve_left hne
  have htop := nbits_top hn
  rw [val_digs] at htop
  intro hl2
  refine Ar.fit (by omega) ?_
  refine Ar.fit (by omega) ?_
  intro hl3
  refine Ar.fit (by omega) ?_
  refine Ob.mk (by omega) ?_
  intro x hx
  rw [show (((digs (val a)).length : Int) - 1).toNat = (digs (val a)).length - 1 by omega] at hx
  have dx := dig_some hx
  have hxl := x.isLt
  have hb := nbits_val_le a
  refine ⟨Nat × Nat, fun ⟨n, t⟩ => ⟨[(4, i64 n), (5, u32 t)], [], 0, 28, 0⟩, fun q => q.2 < 4294967296 ∧ q.1 + nbits q.2 = nbits (val a), fun q => q.2, (32 * ((digs (val a)).length - 1), x.val), ?_, ?_, ?_⟩
  · exact ⟨hxl, by dsimp only; rw [htop, dx]⟩
  · exact sub_of [] rfl rfl rfl ⟨congrArg (fun n => some (i64 n)) (by omega), rfl, trivial⟩ trivial
  rintro ⟨n, t⟩ ⟨g1, g2⟩
  dsimp only at g1 g2
  refine Br.mk (fun g3 => ?_) (fun g3 => ?_)
  · have hh := nbits_half (n := t) (by omega)
    refine Ar.fit (by omega) ?_
    refine Dv.pos ⟨by omega, by omega, by show _ ≤ (4294967295 : Int); omega⟩ ?_
    exact ⟨(n + 1, t / 2), ⟨by dsimp only; omega, by dsimp only; omega⟩, sub_of [] rfl rfl rfl ⟨rfl, congrArg (fun n => some (u32 n)) (by omega), trivial⟩ trivial, by dsimp only; omega⟩
  · have : t = 0 := by omega
    subst this
    exact LE_int (by rw [← g2]; rfl)

theorem up_step {p s x c u v w o M : Nat} (h4 : o + p * M * c = p * (s * w)) (e : 4294967296 * u + v = x * s + c) :
    o + p * M * v + p * (M * 4294967296) * u = p * (s * (w + M * x)) := by grind

set_option maxRecDepth 100000 in
theorem r1_up (a : List Dig) (n : Nat) (ha : a.length ≤ 800000000) (hn : n ≤ 4096) :
    CallsG Try.prog 157 [.sl dgE a, i64 n] [] (.own 0) [(0, dArr (digs (val a * 2 ^ n)))] := by
  refine calls_own tok mix Try.func157 rfl rfl rfl ?_
  have hs0 : 2 ^ (n % 32) ≤ 2 ^ 31 := Nat.pow_le_pow_right (by decide) (by omega)
  have hs1 : 0 < 2 ^ (n % 32) := Nat.pow_pos (by decide)
  generalize hs : 2 ^ (n % 32) = s at *
  refine Dv.pos ⟨by omega, by omega, by show _ ≤ (9223372036854775807 : Int); omega⟩ ?_
  refine ⟨Dig, dgE, 0, rfl, Ob.mk ⟨by decide, by omega, by omega, (by show _ * (4 : Int) ≤ _; omega), by omega⟩ ?_⟩
  refine ⟨Nat × List Dig × Nat, fun ⟨i, out, c⟩ => ⟨[(7, i64 i), (6, u64 c), (5, .own 0), (0, .sl dgE a), (1, i64 n)], [(0, dArr out)], 1, 43, 0⟩,
    fun q => q.1 ≤ a.length ∧ q.2.1.length = n / 32 + q.1 ∧ q.2.2 < s ∧ val q.2.1 + 4294967296 ^ (n / 32) * 4294967296 ^ q.1 * q.2.2 = 4294967296 ^ (n / 32) * (s * val (a.take q.1)), fun q => a.length - q.1, (0, List.replicate (n / 32) 0, 0), ?_, ?_, ?_⟩
  · exact ⟨Nat.zero_le _, by simp, hs1, by simp [val_zeros, val]⟩
  · exact sub_of [(0, some 0)] rfl rfl rfl ⟨rfl, rfl, rfl, rfl, rfl, trivial⟩ ⟨congrArg (fun n => some (dArr (List.replicate n 0))) (by omega), trivial⟩
  rintro ⟨i, out, c⟩ ⟨h1, h2, h3, h4⟩
  dsimp only at h1 h2 h3 h4
  intro hl1
  refine Br.mk (fun h5 => ?_) (fun h5 => ?_)
  · refine Ob.mk (by omega) ?_
    intro x hx
    have hx : a[i]? = some x := hx
    have dx := dig_some hx
    have hxl := x.isLt
    refine Ar.fit (by omega) ?_
    refine Dv.pos ⟨by omega, by omega⟩ ?_
    refine Ar.fit (by omega) ?_
    refine Ob.mk (by show _ ∧ _ < (64 : Int); omega) ?_
    have hm : x.val * s ≤ 4294967295 * 2 ^ 31 := Nat.mul_le_mul (by omega) hs0
    have hm2 : (x.val : Int) * 2 ^ ((n : Int) % 32).toNat = ((x.val * s : Nat) : Int) := by
      rw [← hs, show ((n : Int) % 32).toNat = n % 32 by omega]; simp
    have hm3 : x.val * s + c < 4294967296 * s := by
      have : x.val * s ≤ 4294967295 * s := Nat.mul_le_mul_right _ (by omega)
      omega
    refine Ar.fit (by rw [hm2]; omega) ?_
    refine Ar.fit (by rw [hm2]; omega) ?_
    refine Ar.wrap ?_
    refine ⟨Dig, dgE, [dof (x.val * s + c)], congrArg (fun n => [u32 n]) (dofW (by rw [hm2]; omega)), Ob.mk (dOne _) ?_⟩
    refine ⟨_, rfl, Ob.mk (dApp (by simp; omega)) ?_⟩
    refine Ob.mk (by decide) ?_
    refine Ar.fit (by omega) ?_
    refine ⟨(i + 1, out ++ [dof (x.val * s + c)], (x.val * s + c) / 4294967296), ⟨by dsimp only; omega, by simp [h2]; omega, by dsimp only; omega, ?_⟩,
      sub_of [(0, some 2)] rfl rfl rfl ⟨rfl, congrArg (fun n => some (u64 n)) (by rw [hm2]; dsimp only; omega), rfl, rfl, rfl, trivial⟩ ⟨rfl, trivial⟩, by dsimp only; omega⟩
    dsimp only
    rw [val_snoc, h2, dof_val, val_take_succ, dx, Nat.pow_succ, Nat.pow_add]
    exact up_step h4 (Nat.div_add_mod (x.val * s + c) 4294967296)
  · have hi : i = a.length := by omega
    refine Ar.wrap ?_
    refine ⟨Dig, dgE, [dof c], congrArg (fun n => [u32 n]) (dofW rfl), Ob.mk (dOne _) ?_⟩
    refine ⟨_, rfl, Ob.mk (dApp (by simp; omega)) ?_⟩
    refine CallV.fresh _ _ (r1_normalize _ (by simp; omega)) rfl (dArr_flat _) (.inr (dArr_scalar _)) ?_
    refine ⟨some 3, .own _ rfl, ?_, fun _ _ => rfl⟩
    have e : val (out ++ [dof c]) = val a * 2 ^ n := by
      rw [val_snoc, h2, dof_val, Nat.mod_eq_of_lt (by omega), Nat.pow_add, h4, val_take_all (by omega), ← hs, pow32]
      rw [← Nat.mul_assoc, ← Nat.pow_add, show 32 * (n / 32) + n % 32 = n by omega, Nat.mul_comm]
    rw [← e]; rfl
theorem r1_upP (a : List Dig) (n : Nat) (ha : a.length ≤ 800000000) (hn : n ≤ 4096) :
    CallsG Try.prog 157 [.sl dgE a, i64 n] [] (.sl dgE (digs (val a * 2 ^ n))) [] := (r1_up a n ha hn).plain rfl

set_option maxRecDepth 100000 in
theorem r1_shl (a : List Dig) (n : Nat) (ha : a.length ≤ 800000000) (hn : n ≤ 4096) :
    CallsG Try.prog 142 [.sl dgE a, i64 n] [] (.own 0) [(0, dArr (digs (val a * 2 ^ n)))] := by
  refine calls_own tok mix Try.func142 rfl rfl rfl ?_
  refine Br.mk (fun h => ?_) (fun h => absurd (by omega) h)
  have e : minL (n : Int) [4096] = n := by simp only [minL]; omega
  refine CallV.fresh _ _ (show CallsG Try.prog _ [.sl dgE a, i64 (minL (n : Int) [4096])] [] (.own 0) [(0, dArr (digs (val a * 2 ^ n)))] by rw [e]; exact r1_up a n ha hn) rfl (dArr_flat _) (.inr (dArr_scalar _)) ?_
  exact ⟨some 0, .own _ rfl, rfl, fun _ _ => rfl⟩

set_option maxRecDepth 100000 in
theorem r1_shr (a : List Dig) (n : Nat) (ha : a.length ≤ 800000000) (hn : n ≤ 1000000000000) :
    CallsG Try.prog 142 [.sl dgE a, i64 (-(n : Int))] [] (.own 0) [(0, dArr (digs (val a / 2 ^ n)))] := by
  refine calls_own tok mix Try.func142 rfl rfl rfl ?_
  refine Br.mk (fun h => ?_) (fun h => ?_)
  · have hn0 : n = 0 := by omega
    subst hn0
    refine CallV.fresh _ _ (show CallsG Try.prog _ [.sl dgE a, i64 (minL (-((0 : Nat) : Int)) [4096])] [] (.own 0) [(0, dArr (digs (val a / 2 ^ 0)))] by
      have := r1_up a 0 ha (by omega)
      rw [show minL (-((0 : Nat) : Int)) [4096] = 0 by decide, Nat.pow_zero, Nat.div_one]
      rw [Nat.pow_zero, Nat.mul_one] at this
      exact this) rfl (dArr_flat _) (.inr (dArr_scalar _)) ?_
    exact ⟨some 0, .own _ rfl, rfl, fun _ _ => rfl⟩
  intro hl
  refine Ar.fit (by omega) ?_
  refine Br.mk (fun h2 => ?_) (fun h2 => ?_)
  · refine ⟨Dig, dgE, [], rfl, Ob.mk dNone ?_⟩
    refine ⟨some 0, .own _ rfl, ?_, fun _ _ => rfl⟩
    have e : val a / 2 ^ n = 0 := by
      refine Nat.div_eq_of_lt (Nat.lt_of_lt_of_le (val_lt a) ?_)
      rw [pow32]
      exact Nat.pow_le_pow_right (by decide) (by omega)
    rw [e, digs_zero]; rfl
  refine ⟨Dig, dgE, [], rfl, Ob.mk dNone ?_⟩
  refine Ar.fit (by omega) ?_
  refine Dv.pos ⟨by omega, by omega, by show _ ≤ (9223372036854775807 : Int); omega⟩ ?_
  refine ⟨Nat × List Dig, fun ⟨i, out⟩ => ⟨[(6, i64 ((n / 32 + i : Nat))), (5, .own 0), (0, .sl dgE a), (1, i64 (-(n : Int)))], [(0, dArr out)], 1, 51, 0⟩,
    fun q => q.1 + n / 32 ≤ a.length ∧ q.2.length = q.1 ∧ ∀ j, j < q.2.length → dig q.2 j = val a / 2 ^ n / 4294967296 ^ j % 4294967296, fun q => a.length - q.1, (0, []), ?_, ?_, ?_⟩
  · exact ⟨by dsimp only; omega, rfl, fun j h => by simp at h⟩
  · exact sub_of [(0, some 0)] rfl rfl rfl ⟨congrArg (fun n => some (i64 n)) (by omega), rfl, rfl, rfl, trivial⟩ ⟨rfl, trivial⟩
  rintro ⟨i, out⟩ ⟨g1, g2, g3⟩
  dsimp only at g1 g2 g3
  intro hl1
  refine Br.mk (fun h5 => ?_) (fun h5 => ?_)
  · have d1 := dig_lt a (n / 32 + i)
    have d2 := dig_lt a (n / 32 + i + 1)
    have hw : (((n / 32 + i : Nat) : Int) + 1).toNat = n / 32 + i + 1 := by omega
    refine Ar.fit (by omega) ?_
    refine CallV.to _ (r1_digit a _ (by omega)) rfl ?_
    rw [hw]
    refine Ob.mk (by decide) ?_
    refine Ar.fit (by simp only [Int.reducePow]; omega) ?_
    refine CallV.to _ (r1_digit a _ (by omega)) rfl ?_
    simp only [Int.toNat_natCast]
    refine Ar.fit (by simp only [Int.reducePow]; omega) ?_
    refine Ar.fit (by omega) ?_
    refine Dv.pos ⟨by omega, by omega⟩ ?_
    refine Ar.fit (by omega) ?_
    refine Ob.mk (by show _ ∧ _ < (64 : Int); omega) ?_
    refine Ar.wrap ?_
    have es : ((-(-(n : Int))) % 32).toNat = n % 32 := by omega
    refine ⟨Dig, dgE, [dof ((dig a (n / 32 + i + 1) * 4294967296 + dig a (n / 32 + i)) / 2 ^ (n % 32))], congrArg (fun n => [u32 n]) (dofW (by rw [es]; simp)), Ob.mk (dOne _) ?_⟩
    refine ⟨_, rfl, Ob.mk (dApp (by simp; omega)) ?_⟩
    refine Ar.fit (by omega) ?_
    refine ⟨(i + 1, out ++ [dof ((dig a (n / 32 + i + 1) * 4294967296 + dig a (n / 32 + i)) / 2 ^ (n % 32))]), ⟨by dsimp only; omega, by simp [g2], ?_⟩,
      sub_of [(0, some 2)] rfl rfl rfl ⟨congrArg (fun n => some (i64 n)) (by omega), rfl, rfl, rfl, trivial⟩ ⟨rfl, trivial⟩, by dsimp only; omega⟩
    intro j hj
    dsimp only at hj ⊢
    rw [List.length_append, List.length_singleton] at hj
    rw [dig_append]
    split
    · exact g3 j (by omega)
    · have hji : j = i := by omega
      subst hji
      have := shr_dig a (n / 32) (n % 32) j (by omega)
      rw [show 32 * (n / 32) + n % 32 = n by omega] at this
      rw [this, g2, Nat.sub_self, dig_cons_zero, dof_val]
  · refine CallV.fresh _ _ (r1_normalize _ (by omega)) rfl (dArr_flat _) (.inr (dArr_scalar _)) ?_
    refine ⟨some 1, .own _ rfl, ?_, fun _ _ => rfl⟩
    have e : val out = val a / 2 ^ n := by
      rw [val_of_digs g3, Nat.mod_eq_of_lt]
      rw [Nat.div_lt_iff_lt_mul (Nat.pow_pos (by decide))]
      refine Nat.lt_of_lt_of_le (val_lt a) ?_
      rw [pow32, pow32, ← Nat.pow_add]
      exact Nat.pow_le_pow_right (by decide) (by omega)
    rw [← e]; rfl

theorem r1_shlP (a : List Dig) (n : Nat) (ha : a.length ≤ 800000000) (hn : n ≤ 4096) :
    CallsG Try.prog 142 [.sl dgE a, i64 n] [] (.sl dgE (digs (val a * 2 ^ n))) [] := (r1_shl a n ha hn).plain rfl

theorem r1_shrP (a : List Dig) (n : Nat) (ha : a.length ≤ 800000000) (hn : n ≤ 1000000000000) :
    CallsG Try.prog 142 [.sl dgE a, i64 (-(n : Int))] [] (.sl dgE (digs (val a / 2 ^ n))) [] := (r1_shr a n ha hn).plain rfl

end Go.Gs
