/- Natural numbers, the other text: quotients. -/
import Derived.Test.YtlhelkkfjniioaaPN3
namespace Go.Gs
open Go.Proofs

/-- A quotient's digit is no greater than what its first digits say. -/
theorem est_ge {r b : List Dig} (hb : dig b (b.length - 1) ≠ 0) (hlt : val r < 4294967296 * val b) :
    val r / val b ≤ (dig r b.length * 4294967296 + dig r (b.length - 1)) / dig b (b.length - 1) := by
  have hl : 0 < b.length := by
    rcases Nat.eq_zero_or_pos b.length with h | h
    · rw [List.length_eq_zero_iff.1 h] at hb; exact absurd rfl hb
    · exact h
  have e1 := val_split b (b.length - 1)
  have e3 := val_drop_cons b (b.length - 1)
  rw [show b.length - 1 + 1 = b.length by omega, val_drop_out (Nat.le_refl _), Nat.mul_zero, Nat.add_zero] at e3
  have r1 := val_split r (b.length - 1)
  have r2 := val_take_lt r (b.length - 1)
  have r3 := val_drop_cons r (b.length - 1)
  have r4 := val_drop_cons r b.length
  rw [show b.length - 1 + 1 = b.length by omega] at r3
  have hbl := val_lt b
  have hpow : 4294967296 ^ b.length = 4294967296 ^ (b.length - 1) * 4294967296 := by rw [← Nat.pow_succ]; congr 1; omega
  have r5 : val (r.drop (b.length + 1)) = 0 := by
    rw [val_drop]
    refine Nat.div_eq_of_lt (Nat.lt_trans hlt ?_)
    rw [Nat.pow_succ, Nat.mul_comm]
    exact Nat.mul_lt_mul_of_pos_right hbl (by decide)
  rw [r5, Nat.mul_zero, Nat.add_zero] at r4
  rw [r4] at r3
  rw [e3] at e1
  rw [r3] at r1
  have hp := pow_pos' (b.length - 1)
  generalize 4294967296 ^ (b.length - 1) = p at *
  generalize dig b (b.length - 1) = t at *
  generalize dig r (b.length - 1) = x at *
  generalize dig r b.length = y at *
  rw [Nat.le_div_iff_mul_le (by omega)]
  have h6 := Nat.div_mul_le_self (val r) (val b)
  generalize val r / val b = q at *
  have h7 : q * (p * t) ≤ q * val b := Nat.mul_le_mul_left _ (by omega)
  have h8 : p * (q * t) < p * (x + 4294967296 * y + 1) := by
    have : q * (p * t) = p * (q * t) := by rw [← Nat.mul_assoc, Nat.mul_comm q p, Nat.mul_assoc]
    rw [Nat.mul_add p _ 1]
    omega
  have := Nat.lt_of_mul_lt_mul_left h8
  omega

theorem minL_dig {a q : Nat} {e : Int} (he : e = a) (ha : q ≤ a) (hb : q < 4294967296) : ∃ m : Nat, m < 4294967296 ∧ q ≤ m ∧ minL e [4294967295] = m := by
  rcases Int.le_total e 4294967295 with h | h
  · exact ⟨a, by omega, ha, by simp only [minL]; rw [Int.min_eq_left h, he]⟩
  · exact ⟨4294967295, by omega, by omega, by simp only [minL]; rw [Int.min_eq_right h]; simp⟩

set_option maxRecDepth 100000 in
theorem r1_often (r b : List Dig) (hr : r.length ≤ 800000000) (hb : b.length ≤ 800000000) (ht : dig b (b.length - 1) ≠ 0) (hlt : val r < 4294967296 * val b) :
    CallsG Try.prog 143 [.sl dgE r, .sl dgE b] [] (.tup [u64 ((val r / val b : Nat) : Int), .own 0]) [(0, dArr (digs (val r % val b)))] := by
  refine calls_own tok mix Try.func143 rfl rfl rfl ?_
  have hl : 0 < b.length := by
    rcases Nat.eq_zero_or_pos b.length with h | h
    · rw [List.length_eq_zero_iff.1 h] at ht; exact absurd rfl ht
    · exact h
  have hbp : 0 < val b := by
    rcases Nat.eq_zero_or_pos (val b) with h | h
    · rw [h] at hlt; omega
    · exact h
  have hest := est_ge ht hlt
  have hq : val r / val b < 4294967296 := by rw [Nat.div_lt_iff_lt_mul hbp]; exact hlt
  have d1 := dig_lt r b.length
  have d2 := dig_lt r (b.length - 1)
  have d3 := dig_lt b (b.length - 1)
  intro hl0
  refine Dr.mk (by decide +kernel) ?_
  refine CallV.to _ (r1_digit r _ (by omega)) rfl ?_
  rw [Int.toNat_natCast]
  refine Ob.mk (by decide) ?_
  refine Ar.fit (by simp only [Int.reducePow]; omega) ?_
  refine Ar.fit (by omega) ?_
  refine CallV.to _ (r1_digit r _ (by omega)) rfl ?_
  rw [show ((b.length : Int) - 1).toNat = b.length - 1 by omega]
  refine Ar.fit (by simp only [Int.reducePow]; omega) ?_
  refine Ar.fit (by omega) ?_
  refine Ob.mk (by omega) ?_
  intro x hx
  rw [show ((b.length : Int) - 1).toNat = b.length - 1 by omega] at hx
  have dx := dig_some hx
  rw [dx] at ht hest d3
  refine Ar.fit (by omega) ?_
  refine Dv.pos ⟨by simp only [Int.reducePow]; omega, by omega, by show _ ≤ (18446744073709551615 : Int); simp only [Int.reducePow]; omega⟩ ?_
  obtain ⟨m, hm1, hm2, em⟩ := minL_dig (e := ((dig r b.length : Nat) * 2 ^ 32 + (dig r (b.length - 1) : Nat) : Int) / ((x.val : Nat) : Int)) (by simp) hest hq
  clear hest
  refine CallV.to _ (show CallsG Try.prog _ [.sl dgE b, u64 (minL (((dig r b.length : Nat) * 2 ^ 32 + (dig r (b.length - 1) : Nat) : Int) / ((x.val : Nat) : Int)) [4294967295])] [] (.sl dgE (digs (val b * m))) [] by
    rw [em]; exact r1_timesP b m (by omega) (by omega)) rfl ?_
  refine ⟨Nat, fun d => ⟨[(8, u64 d), (9, .sl dgE (digs (val b * d))), (0, .sl dgE r), (1, .sl dgE b)], [], 0, 55, 0⟩, fun d => val r / val b ≤ d ∧ d < 4294967296, fun d => d, m, ?_, ?_, ?_⟩
  · exact ⟨hm2, by omega⟩
  · exact sub_of [] rfl rfl rfl ⟨congrArg (fun n => some (u64 n)) em, rfl, rfl, rfl, trivial⟩ trivial
  rintro d ⟨h1, h2⟩
  have hlen : (digs (val b * d)).length ≤ b.length + 1 := digs_len (by
    rw [Nat.pow_succ]
    exact Nat.mul_lt_mul_of_lt_of_lt (val_lt b) h2)
  refine CallV.to _ (r1_cmp _ r (by omega) (by omega)) rfl ?_
  rw [val_digs]
  refine Br.mk (fun h3 => ?_) (fun h3 => ?_)
  · have h3 := cmpN_gt.1 h3
    have hd : 1 ≤ d := by
      rcases Nat.eq_zero_or_pos d with h | h
      · subst h; omega
      · exact h
    have hq' : val r / val b ≤ d - 1 := by
      have : val r / val b < d := by rw [Nat.div_lt_iff_lt_mul hbp, Nat.mul_comm]; exact h3
      omega
    refine Ar.fit (by omega) ?_
    refine CallV.to _ (r1_subP _ b (by omega) (by omega)) rfl ?_
    rw [val_digs]
    refine ⟨d - 1, ⟨hq', by omega⟩, sub_of [] rfl rfl rfl ⟨congrArg (fun n => some (u64 n)) (by omega), congrArg (fun n => some (SV.sl dgE (digs n))) (show val b * d - val b = val b * (d - 1) by rw [Nat.mul_sub, Nat.mul_one]), rfl, rfl, trivial⟩ trivial, by dsimp only; omega⟩
  · have h3 : val b * d ≤ val r := Nat.le_of_not_lt fun h => h3 (cmpN_gt.2 h)
    have hd : d = val r / val b := by
      have : d ≤ val r / val b := by rw [Nat.le_div_iff_mul_le hbp, Nat.mul_comm]; exact h3
      omega
    refine CallV.fresh _ _ (r1_sub r _ (by omega) (by omega)) rfl (dArr_flat _) (.inr (dArr_scalar _)) ?_
    refine ⟨some 0, take_tup (.cons (take_int (by rw [hd])) (.cons (.own _ rfl) .nil)), ?_, fun _ _ => rfl⟩
    have e : val r - val (digs (val b * d)) = val r % val b := by
      rw [val_digs, hd]
      have := Nat.div_add_mod (val r) (val b)
      omega
    rw [← e]; rfl

end Go.Gs
