/- Integers, the other text: what rounded division needs. -/
import Derived.Test.YtlhelkkfjniioaaPN5
import Derived.Test.YtlhelkkfjniioaaZ
namespace Go.Gs
open Go.Proofs

def biE (a : BI) : List SV := [pr (a.neg = true), .sl dgE a.mag]

theorem r2_new (p : Prop) [i : Decidable p] (m : List Dig) (hm : m.length ≤ 1000000000) :
    CallsG Try.prog 97 [.pr p i, .sl dgE m] [] (.agg (biE (ofZ (if p then -(val m : Int) else val m)))) [] := by
  refine calls_to tok mix Try.func97 rfl rfl rfl ?_
  refine CallV.to _ (r1_normalizeP m hm) rfl ?_
  refine Br.mk (fun h => ?_) (fun h => ?_)
  · intro hl
    refine LE_agg (.cons (LE_pr ?_) (.cons (LE_sl ?_) .nil))
    · rw [if_pos h, ofZ_neg]
      have := digs_len_pos (n := val m)
      omega
    · rw [if_pos h, ofZ_mag]; congr 1; omega
  · refine LE_agg (.cons (LE_false ?_) (.cons (LE_sl ?_) .nil))
    · rw [if_neg h, ofZ_neg]; omega
    · rw [if_neg h, ofZ_mag]; congr 1

theorem r2_newv (a : BI) (hm : a.mag.length ≤ 1000000000) :
    CallsG Try.prog 97 [pr (a.neg = true), .sl dgE a.mag] [] (.agg (biE (ofZ a.v))) [] := r2_new (a.neg = true) a.mag hm

theorem dTwo (c d : Dig) : [c, d].length = 2 ∧ 2 ≤ 281474976710656 ∧ 2 * 1 ≤ 16777216 ∧ 0 < 1 ∧ ∀ x ∈ [c, d], (dgE x).length = 1 ∧ cellsB (dgE x) = true ∧ flat.flats (dgE x) = true :=
  ⟨rfl, by decide, by decide, by decide, fun _ _ => ⟨rfl, rfl, rfl⟩⟩
theorem val_two (m : Nat) (h : m < 18446744073709551616) : val [dof m, dof (m / 4294967296)] = m := by
  simp only [val, dof_val]; omega

theorem r2_fromint (n : Int) (hn : R64 n) : CallsG Try.prog 74 [i64 n] [] (.agg (biE (ofZ n))) [] := by
  refine calls_to tok mix Try.func74 rfl rfl rfl ?_
  refine Ar.wrap ?_
  refine Br.mk (fun h => ?_) (fun h => ?_)
  · refine Ar.wrap ?_
    have e : IntKind.u64.wrap (0 - IntKind.u64.wrap n) = ((n.natAbs : Nat) : Int) := by rw [wrap64, wrap64]; omega
    refine Ar.wrap ?_
    refine Ob.mk (by decide) ?_
    refine Ar.wrap ?_
    refine ⟨Dig, dgE, [dof n.natAbs, dof (n.natAbs / 4294967296)], congr (congrArg (fun n m => [u32 n, u32 m]) (dofW e)) (dofW (by rw [e]; simp only [Int.reducePow]; omega)), Ob.mk (dTwo _ _) ?_⟩
    refine CallV.see 1 _ (r2_new (n < 0) [dof n.natAbs, dof (n.natAbs / 4294967296)] (by simp)) rfl rfl rfl ?_
    rw [if_pos h, val_two _ (by omega), show (-(n.natAbs : Int)) = n by omega]
    exact .refl
  · have e : IntKind.u64.wrap n = ((n.natAbs : Nat) : Int) := by rw [wrap64]; omega
    refine Ar.wrap ?_
    refine Ob.mk (by decide) ?_
    refine Ar.wrap ?_
    refine ⟨Dig, dgE, [dof n.natAbs, dof (n.natAbs / 4294967296)], congr (congrArg (fun n m => [u32 n, u32 m]) (dofW e)) (dofW (by rw [e]; simp only [Int.reducePow]; omega)), Ob.mk (dTwo _ _) ?_⟩
    refine CallV.see 1 _ (r2_new (n < 0) [dof n.natAbs, dof (n.natAbs / 4294967296)] (by simp)) rfl rfl rfl ?_
    rw [if_neg h, val_two _ (by omega), show (n.natAbs : Int) = n by omega]
    exact .refl

theorem r2_sign (a : BI) (ha : a.mag.length ≤ 1000000000) : CallsG Try.prog 121 [.agg (biE a)] [] (i64 a.v.sign) [] := by
  refine calls_to tok mix Try.func121 rfl rfl rfl ?_
  refine CallV.to _ (r2_newv a ha) rfl ?_
  intro hl
  have h1 := digs_len_pos (n := a.v.natAbs)
  refine Br.mk (fun h => ?_) (fun h => ?_)
  · have : a.v = 0 := by rw [ofZ_mag] at h; omega
    exact LE_int (by rw [this]; rfl)
  have h0 : a.v ≠ 0 := by rw [ofZ_mag] at h; omega
  refine Br.mk (fun h2 => ?_) (fun h2 => ?_)
  · rw [ofZ_neg] at h2
    exact LE_int (Int.sign_eq_neg_one_of_neg h2).symm
  · rw [ofZ_neg] at h2
    exact LE_int (Int.sign_eq_one_of_pos (by omega)).symm

/-- The sign of a product. -/
theorem v_mul (a b : BI) : (if ¬ (a.neg = true ↔ b.neg = true) then -((val a.mag * val b.mag : Nat) : Int) else ((val a.mag * val b.mag : Nat) : Int)) = a.v * b.v := by
  rcases a.v_eq with ⟨h1, h2⟩ | ⟨h1, h2⟩ <;> rcases b.v_eq with ⟨h3, h4⟩ | ⟨h3, h4⟩ <;> simp [h1, h2, h3, h4, Int.neg_mul, Int.mul_neg]

theorem r2_mul (a b : BI) (ha : a.mag.length ≤ 400000000) (hb : b.mag.length ≤ 400000000) : CallsG Try.prog 106 [.agg (biE a), .agg (biE b)] [] (.agg (biE (ofZ (a.v * b.v)))) [] := by
  refine calls_to tok mix Try.func106 rfl rfl rfl ?_
  refine Dr.mk (by decide +kernel) ?_
  refine CallV.to _ (r1_mulP a.mag b.mag ha hb) rfl ?_
  have hl : (digs (val a.mag * val b.mag)).length ≤ 1000000000 := by
    refine Nat.le_trans (digs_len (k := a.mag.length + b.mag.length) ?_) (by omega)
    rw [Nat.pow_add]; exact Nat.mul_lt_mul_of_lt_of_lt (val_lt _) (val_lt _)
  refine CallV.to _ (r2_new (¬ (a.neg = true ↔ b.neg = true)) _ hl) rfl ?_
  rw [val_digs, v_mul]
  exact .refl

end Go.Gs
