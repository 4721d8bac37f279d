/- Natural numbers, the other text: quotient and remainder. -/
import Derived.Test.YtoggmkhegbfjfaaGreatMAK
import Derived.Lib.Mul64
namespace Go.Gs
open Go.Proofs

theorem div_step {u q V d l w B qd rr nx : Nat} (h : w = V * qd + rr) (hn : nx = u + B * rr) (hd : V * d + l = nx) (hq : q = d + B * qd) : u + B * w = V * q + l := by
  subst h; subst hq; grind

theorem drop_set_self {xs : List Dig} {i : Nat} {d : Dig} (h : i < xs.length) : val ((xs.set i d).drop i) = d.val + 4294967296 * val (xs.drop (i + 1)) := by
  rw [val_drop_cons, dig_set, if_pos ⟨rfl, h⟩, List.drop_set_of_lt (by omega)]

set_option maxRecDepth 100000 in
set_option maxHeartbeats 1000000 in
theorem r1_divmod (a b : List Dig) (ha : a.length ≤ 400000000) (hb : b.length ≤ 400000000) (hb0 : val b ≠ 0) :
    CallsG Tryz.prog 273 [.sl dgE a, .sl dgE b] [] (.tup [.sl dgE (digs (val a / val b)), .sl dgE (digs (val a % val b)), i64 0]) [] := by
  refine calls_to tok mix Tryz.func273 rfl rfl rfl ?_
  refine CallV.to _ (r1_normalizeP _ (by omega)) rfl ?_
  intro hl
  have hlen := digs_val_len b
  refine Br.mk (fun h => ?_) (fun h => ?_)
  · have : digs (val b) = [] := List.length_eq_zero_iff.1 (by omega)
    exact absurd (digs_nil.1 this) hb0
  have hne : digs (val b) ≠ [] := fun e => hb0 (digs_nil.1 e)
  have hnorm := (normd_digs (val b)).resolve_left hne
  have htop := nbits_top hnorm
  rw [val_digs] at htop
  have hbits := nbits_val_le (digs (val b))
  rw [val_digs] at hbits
  have hpos := nbits_pos.2 hb0
  have hnt : 0 < nbits (dig (digs (val b)) ((digs (val b)).length - 1)) := nbits_pos.2 hnorm
  intro hl2
  refine Ar.fit (by omega) ?_
  refine CallV.to _ (r1_bitlen _ (by omega)) rfl ?_
  rw [val_digs]
  refine Ar.fit (by omega) ?_
  obtain ⟨s, hs⟩ : ∃ s : Nat, (32 * ((digs (val b)).length : Int) - (nbits (val b) : Int)) = s := ⟨32 * (digs (val b)).length - nbits (val b), by omega⟩
  rw [hs]
  have hs32 : s < 32 := by omega
  refine CallV.to _ (r1_shlP a s (by omega) (by omega)) rfl ?_
  refine CallV.to _ (r1_shlP (digs (val b)) s (by omega) (by omega)) rfl ?_
  rw [val_digs]
  have hpow : 2 ^ s ≤ 4294967296 ^ 1 := by rw [pow32]; exact Nat.pow_le_pow_right (by decide) (by omega)
  have hpow0 : 0 < 2 ^ s := Nat.pow_pos (by decide)
  have hUl : (digs (val a * 2 ^ s)).length ≤ a.length + 1 := digs_len (by
    rw [Nat.pow_add]
    exact Nat.lt_of_lt_of_le (Nat.mul_lt_mul_of_pos_right (val_lt a) hpow0) (Nat.mul_le_mul_left _ hpow))
  have hVl : (digs (val b * 2 ^ s)).length ≤ b.length + 1 := digs_len (by
    rw [Nat.pow_add]
    exact Nat.lt_of_lt_of_le (Nat.mul_lt_mul_of_pos_right (val_lt b) hpow0) (Nat.mul_le_mul_left _ hpow))
  have hV0 : val b * 2 ^ s ≠ 0 := Nat.mul_ne_zero hb0 (by omega)
  have eq1 : val a / val b = val a * 2 ^ s / (val b * 2 ^ s) := (Nat.mul_div_mul_right _ _ hpow0).symm
  have eq2 : val a % val b = val a * 2 ^ s % (val b * 2 ^ s) / 2 ^ s := by rw [Nat.mul_mod_mul_right, Nat.mul_div_cancel _ hpow0]
  rw [eq1, eq2]
  clear eq1 eq2 hpow hnt hnorm htop hpos hbits
  generalize val a * 2 ^ s = U at *
  generalize val b * 2 ^ s = V at *
  have hvn := (normd_digs V).resolve_left fun e => hV0 (digs_nil.1 e)
  intro hl3
  refine ⟨Dig, dgE, 0, rfl, Ob.mk ⟨by decide, by omega, by omega, (by show _ * (4 : Int) ≤ _; omega), by omega⟩ ?_⟩
  refine ⟨Dig, dgE, [], rfl, Ob.mk dNone ?_⟩
  intro hl4
  refine Ar.fit (by omega) ?_
  refine ⟨Nat × List Dig × List Dig, fun ⟨j, q, r⟩ => ⟨[(13, i64 ((j : Int) - 1)), (12, .own 1), (11, .own 0), (9, .sl dgE (digs U)), (10, .sl dgE (digs V)), (8, i64 s)], [(1, dArr r), (0, dArr q)], 2, 83, 0⟩,
    fun x => x.1 ≤ (digs U).length ∧ x.2.1.length = (digs U).length ∧ x.2.2.length ≤ (digs V).length ∧ val ((digs U).drop x.1) = V * val (x.2.1.drop x.1) + val x.2.2 ∧ val x.2.2 < V, fun x => x.1,
    ((digs U).length, List.replicate (digs U).length 0, []), ?_, ?_, ?_⟩
  · refine ⟨Nat.le_refl _, by simp, by simp, ?_, by dsimp only; rw [val_nil]; omega⟩
    dsimp only
    rw [val_drop_out (Nat.le_refl _), val_drop_out (by simp), val_nil, Nat.mul_zero]
  · exact sub_of [(0, some 0), (1, some 1)] rfl rfl rfl ⟨rfl, rfl, rfl, rfl, rfl, rfl, trivial⟩ ⟨rfl, congrArg (fun n => some (dArr (List.replicate n 0))) (by omega), trivial⟩
  rintro ⟨j, q, r⟩ ⟨g1, g2, g3, g4, g5⟩
  dsimp only at g1 g2 g3 g4 g5
  refine Br.mk (fun k1 => ?_) (fun k1 => ?_)
  · refine Ob.mk (by omega) ?_
    intro x hx
    rw [show ((j : Int) - 1).toNat = j - 1 by omega] at hx
    have dx := dig_some hx
    have hxl := x.isLt
    refine ⟨Dig, dgE, [x], rfl, Ob.mk (dOne x) ?_⟩
    refine ⟨Nat, fun k => ⟨[(15, i64 k), (14, .own 2), (13, i64 ((j : Int) - 1)), (12, .own 1), (11, .own 0), (9, .sl dgE (digs U)), (10, .sl dgE (digs V)), (8, i64 s)], [(2, dArr (x :: r.take k)), (1, dArr r), (0, dArr q)], 3, 83, 0⟩,
      fun k => k ≤ r.length, fun k => r.length - k, 0, ?_, ?_, ?_⟩
    · exact Nat.zero_le _
    · exact sub_of [(0, some 0), (1, some 1), (2, some 2)] rfl rfl rfl ⟨rfl, rfl, rfl, rfl, rfl, rfl, rfl, rfl, trivial⟩ ⟨rfl, rfl, rfl, trivial⟩
    intro k hk
    have hk : k ≤ r.length := hk
    intro hl5
    refine Br.mk (fun k2 => ?_) (fun k2 => ?_)
    · refine Ob.mk (by omega) ?_
      refine Ob.mk (by omega) ?_
      intro y hy
      have hy : r[k]? = some y := hy
      refine ⟨Dig, dgE, [y], rfl, Ob.mk (dOne y) ?_⟩
      refine ⟨_, rfl, Ob.mk (dApp (by simp; omega)) ?_⟩
      refine Ar.fit (by omega) ?_
      refine ⟨k + 1, by show k + 1 ≤ r.length; omega, sub_of [(0, some 0), (1, some 1), (2, some 4)] rfl rfl rfl ⟨rfl, rfl, rfl, rfl, rfl, rfl, rfl, rfl, trivial⟩
        ⟨congrArg (fun l => some (dArr l)) (by rw [List.take_add_one, hy]; rfl), rfl, rfl, trivial⟩, by dsimp only; omega⟩
    · have hkr : k = r.length := by omega
      subst hkr
      have hnx : val (x :: r) < 4294967296 * V := by rw [val_cons]; omega
      have hnl : (digs (val (x :: r))).length ≤ r.length + 1 := digs_val_len (x :: r)
      refine CallV.fresh _ _ (r1_normalize _ (by simp; omega)) rfl (dArr_flat _) (.inr (dArr_scalar _)) ?_
      rw [List.take_length]
      refine CallV.fresh _ _ (r1_often _ (digs V) (by omega) (by omega) hvn (by rw [val_digs, val_digs]; exact hnx)) rfl (dArr_flat _) (.inr (dArr_scalar _)) ?_
      rw [val_digs, val_digs]
      have hdl : val (x :: r) / V < 4294967296 := by rw [Nat.div_lt_iff_lt_mul (by omega)]; exact hnx
      have hml : val (x :: r) % V < V := Nat.mod_lt _ (by omega)
      have hdm := Nat.div_add_mod (val (x :: r)) V
      generalize val (x :: r) / V = dq at *
      generalize hmd : val (x :: r) % V = md at *
      refine Ar.fit (by omega) ?_
      refine Ob.mk (by omega) ?_
      refine Ob.mk (by omega) ?_
      intro z hz
      refine ⟨dof dq, congrArg (fun n => [u32 n]) (by rw [dof_val, Nat.mod_eq_of_lt hdl]), ?_⟩
      refine Ar.fit (by omega) ?_
      refine ⟨(j - 1, q.set (j - 1) (dof dq), digs md), ⟨by dsimp only; omega, by simp [g2], digs_mono (Nat.le_of_lt hml), ?_, by dsimp only; rw [val_digs]; exact hml⟩,
        sub_of [(0, some 0), (1, some 4)] rfl rfl rfl ⟨congrArg (fun n => some (i64 n)) (by omega), rfl, rfl, rfl, rfl, rfl, trivial⟩ ⟨rfl, congrArg (fun n => some (dArr (q.set n _))) (by omega), trivial⟩, by dsimp only; omega⟩
      dsimp only
      rw [val_digs, val_drop_cons (digs U), dx, show j - 1 + 1 = j by omega]
      refine div_step g4 (val_cons x r) hdm ?_
      rw [drop_set_self (by omega), dof_val, Nat.mod_eq_of_lt hdl, show j - 1 + 1 = j by omega]
  · have hj : j = 0 := by omega
    subst hj
    rw [List.drop_zero, List.drop_zero, val_digs] at g4
    refine CallV.fresh _ _ (r1_normalize _ (by omega)) rfl (dArr_flat _) (.inr (dArr_scalar _)) ?_
    refine Ar.fit (by omega) ?_
    refine CallV.fresh _ _ (r1_shr r s (by omega) (by omega)) rfl (dArr_flat _) (.inr (dArr_scalar _)) ?_
    have e1 : val q = U / V := by
      rw [g4, Nat.mul_add_div (by omega), Nat.div_eq_of_lt g5, Nat.add_zero]
    have e2 : val r = U % V := by
      rw [g4, Nat.mul_add_mod, Nat.mod_eq_of_lt g5]
    exact LE_tup (.cons (LE_sl (by rw [e1])) (.cons (LE_sl (by rw [e2])) (.cons .refl .nil)))

end Go.Gs
/- Integers as a sign and a row of digits. -/
namespace Go.Gs

structure BI where
  neg : Bool
  mag : List Dig
  deriving DecidableEq
/-- What it stands for. -/
def BI.v (a : BI) : Int := if a.neg then -(val a.mag : Int) else val a.mag
/-- The integer, normalized. -/
def ofZ (z : Int) : BI := ⟨decide (z < 0), digs z.natAbs⟩
theorem ofZ_v (z : Int) : (ofZ z).v = z := by
  unfold BI.v ofZ
  simp only [val_digs, decide_eq_true_eq]
  split <;> omega
theorem BI.v_abs (a : BI) : a.v.natAbs = val a.mag := by unfold BI.v; split <;> omega
theorem BI.v_eq (a : BI) : (a.neg = true ∧ a.v = -(val a.mag : Int)) ∨ (a.neg = false ∧ a.v = (val a.mag : Int)) := by
  unfold BI.v; cases a.neg <;> simp
theorem ofZ_neg (z : Int) : (ofZ z).neg = true ↔ z < 0 := by simp [ofZ]
theorem ofZ_mag (z : Int) : (ofZ z).mag = digs z.natAbs := rfl
/-- How many digits. -/
def zlen (z : Int) : Nat := (digs z.natAbs).length
theorem zlen_le {z : Int} {k : Nat} (h : z.natAbs < 4294967296 ^ k) : zlen z ≤ k := digs_len h
theorem zlen_lt {z : Int} {k : Nat} (h : zlen z ≤ k) : z.natAbs < 4294967296 ^ k := digs_lt h
theorem zlen_neg (z : Int) : zlen (-z) = zlen z := by simp [zlen]
theorem zlen_mul (x y : Int) : zlen (x * y) ≤ zlen x + zlen y := by
  refine zlen_le ?_
  rw [Int.natAbs_mul, Nat.pow_add]
  exact Nat.mul_lt_mul_of_lt_of_lt (zlen_lt (Nat.le_refl _)) (zlen_lt (Nat.le_refl _))
theorem zlen_add (x y : Int) : zlen (x + y) ≤ max (zlen x) (zlen y) + 1 := by
  refine zlen_le ?_
  have h1 := zlen_lt (Nat.le_max_left (zlen x) (zlen y))
  have h2 := zlen_lt (Nat.le_max_right (zlen x) (zlen y))
  rw [Nat.pow_succ]
  have := Int.natAbs_add_le x y
  omega
theorem zlen_sub (x y : Int) : zlen (x - y) ≤ max (zlen x) (zlen y) + 1 := by
  have := zlen_add x (-y)
  rwa [zlen_neg, ← Int.sub_eq_add_neg] at this
theorem zlen_v (a : BI) : zlen a.v ≤ a.mag.length := by
  unfold zlen; rw [BI.v_abs]; exact digs_val_len _
theorem zlen_mono {x y : Int} (h : x.natAbs ≤ y.natAbs) : zlen x ≤ zlen y := digs_mono h
theorem zlen_i64 {n : Int} (h : -9223372036854775808 ≤ n ∧ n ≤ 9223372036854775807) : zlen n ≤ 2 := zlen_le (by
  rw [show 4294967296 ^ 2 = 18446744073709551616 by decide]; omega)

/-- The quotient, rounded to the nearest, halves away from zero. -/
def rdiv (a b : Int) : Int :=
  if a < 0 ↔ b < 0 then ((2 * a.natAbs + b.natAbs) / (2 * b.natAbs) : Nat) else -((2 * a.natAbs + b.natAbs) / (2 * b.natAbs) : Nat)
theorem rdiv_abs (a b : Int) : (rdiv a b).natAbs = (2 * a.natAbs + b.natAbs) / (2 * b.natAbs) := by
  unfold rdiv
  generalize (2 * a.natAbs + b.natAbs) / (2 * b.natAbs) = q
  split <;> omega

end Go.Gs
/- Integers, the other text: what rounded division needs. -/
namespace Go.Gs
open Go.Proofs

def biE (a : BI) : List SV := [pr (a.neg = true), .sl dgE a.mag]

theorem r2_new (p : Prop) [i : Decidable p] (m : List Dig) (hm : m.length ≤ 1000000000) :
    CallsG Tryz.prog 104 [.pr p i, .sl dgE m] [] (.agg (biE (ofZ (if p then -(val m : Int) else val m)))) [] := by
  refine calls_to tok mix Tryz.func104 rfl rfl rfl ?_
  refine CallV.to _ (r1_normalizeP m hm) rfl ?_
  refine Br.mk (fun h => ?_) (fun h => ?_)
  · intro hl
    refine LE_agg (.cons (LE_pr ?_) (.cons (LE_sl ?_) .nil))
    · rw [if_pos h, ofZ_neg]
      have := digs_len_pos (n := val m)
      omega
    · rw [if_pos h, ofZ_mag]; congr 1; omega
  · refine LE_agg (.cons (LE_false ?_) (.cons (LE_sl ?_) .nil))
    · rw [if_neg h, ofZ_neg]; omega
    · rw [if_neg h, ofZ_mag]; congr 1

theorem r2_newv (a : BI) (hm : a.mag.length ≤ 1000000000) :
    CallsG Tryz.prog 104 [pr (a.neg = true), .sl dgE a.mag] [] (.agg (biE (ofZ a.v))) [] := r2_new (a.neg = true) a.mag hm

theorem dTwo (c d : Dig) : [c, d].length = 2 ∧ 2 ≤ 281474976710656 ∧ 2 * 1 ≤ 16777216 ∧ 0 < 1 ∧ ∀ x ∈ [c, d], (dgE x).length = 1 ∧ cellsB (dgE x) = true ∧ flat.flats (dgE x) = true :=
  ⟨rfl, by decide, by decide, by decide, fun _ _ => ⟨rfl, rfl, rfl⟩⟩
theorem val_two (m : Nat) (h : m < 18446744073709551616) : val [dof m, dof (m / 4294967296)] = m := by
  simp only [val, dof_val]; omega

theorem r2_fromint (n : Int) (hn : R64 n) : CallsG Tryz.prog 74 [i64 n] [] (.agg (biE (ofZ n))) [] := by
  refine calls_to tok mix Tryz.func74 rfl rfl rfl ?_
  refine Ar.wrap ?_
  refine Br.mk (fun h => ?_) (fun h => ?_)
  · refine Ar.wrap ?_
    have e : IntKind.u64.wrap (0 - IntKind.u64.wrap n) = ((n.natAbs : Nat) : Int) := by rw [wrap64, wrap64]; omega
    refine Ar.wrap ?_
    refine Ob.mk (by decide) ?_
    refine Ar.wrap ?_
    refine ⟨Dig, dgE, [dof n.natAbs, dof (n.natAbs / 4294967296)], congr (congrArg (fun n m => [u32 n, u32 m]) (dofW e)) (dofW (by rw [e]; simp only [Int.reducePow]; omega)), Ob.mk (dTwo _ _) ?_⟩
    refine CallV.see 1 _ (r2_new (n < 0) [dof n.natAbs, dof (n.natAbs / 4294967296)] (by simp)) rfl rfl rfl ?_
    rw [if_pos h, val_two _ (by omega), show (-(n.natAbs : Int)) = n by omega]
    exact .refl
  · have e : IntKind.u64.wrap n = ((n.natAbs : Nat) : Int) := by rw [wrap64]; omega
    refine Ar.wrap ?_
    refine Ob.mk (by decide) ?_
    refine Ar.wrap ?_
    refine ⟨Dig, dgE, [dof n.natAbs, dof (n.natAbs / 4294967296)], congr (congrArg (fun n m => [u32 n, u32 m]) (dofW e)) (dofW (by rw [e]; simp only [Int.reducePow]; omega)), Ob.mk (dTwo _ _) ?_⟩
    refine CallV.see 1 _ (r2_new (n < 0) [dof n.natAbs, dof (n.natAbs / 4294967296)] (by simp)) rfl rfl rfl ?_
    rw [if_neg h, val_two _ (by omega), show (n.natAbs : Int) = n by omega]
    exact .refl

theorem r2_sign (a : BI) (ha : a.mag.length ≤ 1000000000) : CallsG Tryz.prog 158 [.agg (biE a)] [] (i64 a.v.sign) [] := by
  refine calls_to tok mix Tryz.func158 rfl rfl rfl ?_
  refine CallV.to _ (r2_newv a ha) rfl ?_
  intro hl
  have h1 := digs_len_pos (n := a.v.natAbs)
  refine Br.mk (fun h => ?_) (fun h => ?_)
  · have : a.v = 0 := by rw [ofZ_mag] at h; omega
    exact LE_int (by rw [this]; rfl)
  have h0 : a.v ≠ 0 := by rw [ofZ_mag] at h; omega
  refine Br.mk (fun h2 => ?_) (fun h2 => ?_)
  · rw [ofZ_neg] at h2
    exact LE_int (Int.sign_eq_neg_one_of_neg h2).symm
  · rw [ofZ_neg] at h2
    exact LE_int (Int.sign_eq_one_of_pos (by omega)).symm

/-- The sign of a product. -/
theorem v_mul (a b : BI) : (if ¬ (a.neg = true ↔ b.neg = true) then -((val a.mag * val b.mag : Nat) : Int) else ((val a.mag * val b.mag : Nat) : Int)) = a.v * b.v := by
  rcases a.v_eq with ⟨h1, h2⟩ | ⟨h1, h2⟩ <;> rcases b.v_eq with ⟨h3, h4⟩ | ⟨h3, h4⟩ <;> simp [h1, h2, h3, h4, Int.neg_mul, Int.mul_neg]

theorem r2_mul (a b : BI) (ha : a.mag.length ≤ 400000000) (hb : b.mag.length ≤ 400000000) : CallsG Tryz.prog 219 [.agg (biE a), .agg (biE b)] [] (.agg (biE (ofZ (a.v * b.v)))) [] := by
  refine calls_to tok mix Tryz.func219 rfl rfl rfl ?_
  refine Dr.mk (by decide +kernel) ?_
  refine CallV.to _ (r1_mulP a.mag b.mag ha hb) rfl ?_
  have hl : (digs (val a.mag * val b.mag)).length ≤ 1000000000 := by
    refine Nat.le_trans (digs_len (k := a.mag.length + b.mag.length) ?_) (by omega)
    rw [Nat.pow_add]; exact Nat.mul_lt_mul_of_lt_of_lt (val_lt _) (val_lt _)
  refine CallV.to _ (r2_new (¬ (a.neg = true ↔ b.neg = true)) _ hl) rfl ?_
  rw [val_digs, v_mul]
  exact .refl

end Go.Gs
/- Rounded division, the other text. -/
namespace Go.Gs
open Go.Proofs

theorem v_rdiv (a b : BI) (hb : b.v ≠ 0) : (if ¬ (a.neg = true ↔ b.neg = true) then -(((val a.mag + val a.mag + val b.mag) / (val b.mag + val b.mag) : Nat) : Int) else (((val a.mag + val a.mag + val b.mag) / (val b.mag + val b.mag) : Nat) : Int)) = rdiv a.v b.v := by
  unfold rdiv
  rw [BI.v_abs, BI.v_abs, Nat.two_mul, Nat.two_mul]
  by_cases h0 : val a.mag = 0
  · have e : (val a.mag + val a.mag + val b.mag) / (val b.mag + val b.mag) = 0 := by
      rw [h0]
      refine Nat.div_eq_of_lt ?_
      rcases b.v_eq with ⟨h1, h2⟩ | ⟨h1, h2⟩ <;> omega
    rw [e]; simp
  · generalize ((val a.mag + val a.mag + val b.mag) / (val b.mag + val b.mag)) = q
    have e : (a.neg = true ↔ b.neg = true) ↔ (a.v < 0 ↔ b.v < 0) := by
      rcases a.v_eq with ⟨h1, h2⟩ | ⟨h1, h2⟩ <;> rcases b.v_eq with ⟨h3, h4⟩ | ⟨h3, h4⟩ <;> simp only [h1, h3] <;> simp <;> omega
    by_cases h : (a.v < 0 ↔ b.v < 0)
    · rw [if_neg (not_not_intro (e.2 h)), if_pos h]
    · rw [if_pos (fun hh => h (e.1 hh)), if_neg h]

theorem dadd_len {a b : List Dig} {k : Nat} (ha : a.length ≤ k) (hb : b.length ≤ k) : (digs (val a + val b)).length ≤ k + 1 := by
  refine digs_len ?_
  have h1 := Nat.lt_of_lt_of_le (val_lt a) (Nat.pow_le_pow_right (show 0 < 4294967296 by decide) ha)
  have h2 := Nat.lt_of_lt_of_le (val_lt b) (Nat.pow_le_pow_right (show 0 < 4294967296 by decide) hb)
  rw [Nat.pow_succ]; omega

set_option maxRecDepth 100000 in
theorem r2_divround (a b : BI) (ha : a.mag.length ≤ 300000000) (hb : b.mag.length ≤ 300000000) (h0 : b.v ≠ 0) :
    CallsG Tryz.prog 306 [.agg (biE a), .agg (biE b)] [] (.tup [.agg (biE (ofZ (rdiv a.v b.v))), i64 0]) [] := by
  refine calls_to tok mix Tryz.func306 rfl rfl rfl ?_
  refine CallV.to _ (r2_sign b (by omega)) rfl ?_
  refine Br.mk (fun h => absurd (Int.sign_eq_zero_iff_zero.1 h) h0) (fun _ => ?_)
  refine Dr.mk (by decide +kernel) ?_
  have l1 := dadd_len ha ha
  have l2 := dadd_len hb hb
  have l3 := dadd_len l1 (show b.mag.length ≤ _ by omega)
  rw [val_digs] at l3
  have hbp : val b.mag + val b.mag ≠ 0 := by rcases b.v_eq with ⟨h1, h2⟩ | ⟨h1, h2⟩ <;> omega
  refine CallV.to _ (r1_addP a.mag a.mag (by omega) (by omega)) rfl ?_
  refine CallV.to _ (r1_addP _ b.mag (by omega) (by omega)) rfl ?_
  refine CallV.to _ (r1_addP b.mag b.mag (by omega) (by omega)) rfl ?_
  rw [val_digs]
  refine CallV.to _ (r1_divmod _ _ (by omega) (by omega) (by rw [val_digs]; exact hbp)) rfl ?_
  rw [val_digs, val_digs]
  have l4 : (digs ((val a.mag + val a.mag + val b.mag) / (val b.mag + val b.mag))).length ≤ 1000000000 := Nat.le_trans (digs_mono (Nat.div_le_self _ _)) (by omega)
  refine CallV.to _ (r2_new (¬ (a.neg = true ↔ b.neg = true)) _ l4) rfl ?_
  rw [val_digs, v_rdiv a b h0]
  exact .refl

theorem or_nat {x y : Nat} (hx : x < 18446744073709551616) (hy : y < 18446744073709551616) : bitsK .or .u64 x y = ((x ||| y : Nat) : Int) := by
  show IntKind.u64.wrap ((BitVec.ofInt 64 x ||| BitVec.ofInt 64 y).toNat : Nat) = _
  have h : x ||| y < 2 ^ 64 := Nat.or_lt_two_pow hx hy
  have e : (BitVec.ofInt 64 x ||| BitVec.ofInt 64 y).toNat = x ||| y := by
    rw [BitVec.toNat_or, BitVec.toNat_ofInt, BitVec.toNat_ofInt]
    congr 1
    · omega
    · omega
  rw [e, wrap64]; omega

/-- An integer of the machine, where it is one. -/
def fitI (z : Int) : Int := if -9223372036854775808 ≤ z ∧ z ≤ 9223372036854775807 then z else 0

set_option maxRecDepth 100000 in
theorem r2_toint (a : BI) (ha : a.mag.length ≤ 1000000000) :
    CallsG Tryz.prog 264 [.agg (biE a)] [] (.tup [i64 (fitI a.v), pr (-9223372036854775808 ≤ a.v ∧ a.v ≤ 9223372036854775807)]) [] := by
  refine calls_to tok mix Tryz.func264 rfl rfl rfl ?_
  refine CallV.to _ (r2_newv a ha) rfl ?_
  generalize a.v = z
  have bad : ¬ (-9223372036854775808 ≤ z ∧ z ≤ 9223372036854775807) → LE (.tup [i64 0, bl false]) (.tup [i64 (fitI z), pr (-9223372036854775808 ≤ z ∧ z ≤ 9223372036854775807)]) := fun h =>
    LE_tup2 (LE_int (by rw [fitI, if_neg h])) (LE_false h)
  refine ⟨Nat, fun i => ⟨[(6, i64 i), (5, u64 (val ((digs z.natAbs).take i))), (4, .loc 1 0)], [(1, .box 39 (biE (ofZ z))), (0, .box 39 (biE a))], 2, 51, 0⟩,
    fun i => i ≤ 2 ∧ i ≤ (digs z.natAbs).length, fun i => 2 - i, 0, ?_, ?_, ?_⟩
  · exact ⟨by omega, Nat.zero_le _⟩
  · exact sub_of [(0, some 0), (1, some 1)] rfl rfl rfl ⟨rfl, rfl, rfl, trivial⟩ ⟨rfl, rfl, trivial⟩
  rintro i ⟨h1, h2⟩
  intro hl
  refine Br.mk (fun h3 => ?_) (fun h3 => ?_)
  · have h3 : i < (digs z.natAbs).length := by rw [ofZ_mag] at h3; omega
    refine Br.mk (fun h4 => ?_) (fun h4 => ?_)
    · refine bad fun h5 => ?_
      have := digs_len (n := z.natAbs) (k := 2) (by rw [show 4294967296 ^ 2 = 18446744073709551616 by decide]; omega)
      omega
    · refine Ob.mk (by rw [ofZ_mag]; omega) ?_
      intro x hx
      have hx : (digs z.natAbs)[i]? = some x := hx
      have dx := dig_some hx
      have hxl := x.isLt
      have ht := val_take_lt (digs z.natAbs) i
      have hts := val_take_succ (digs z.natAbs) i
      rw [dx] at hts
      have key : ∀ n : Int, n = 32 * i → 0 ≤ n ∧ n < 64 ∧ 0 ≤ (x.val : Int) * 2 ^ n.toNat ∧ (x.val : Int) * 2 ^ n.toNat ≤ 18446744073709551615 ∧
          bitsK .or .u64 (val ((digs z.natAbs).take i)) ((x.val : Int) * 2 ^ n.toNat) = val ((digs z.natAbs).take (i + 1)) := fun n hn => by
        have : i = 0 ∨ i = 1 := by omega
        rcases this with rfl | rfl
        · have : n = 0 := by omega
          subst this
          rw [hts]
          have e := or_nat (x := 0) (y := x.val) (by omega) (by omega)
          have p : (x.val : Int) * 2 ^ (0 : Int).toNat = (x.val : Int) := by simp
          rw [p, val_take_zero]
          refine ⟨by omega, by omega, by omega, by omega, ?_⟩
          rw [e]; simp
        · have : n = 32 := by omega
          subst this
          rw [hts]
          have e := or_nat (x := val ((digs z.natAbs).take 1)) (y := 4294967296 * x.val) (by omega) (by omega)
          have e2 := Nat.two_pow_add_eq_or_of_lt (i := 32) (b := val ((digs z.natAbs).take 1)) (by rw [show 2 ^ 32 = 4294967296 by decide]; omega) x.val
          rw [show 2 ^ 32 = 4294967296 by decide] at e2
          have e3 : (x.val : Int) * 2 ^ (32 : Int).toNat = ((4294967296 * x.val : Nat) : Int) := by
            rw [show (32 : Int).toNat = 32 by decide]; simp only [Int.reducePow]; omega
          rw [e3]
          refine ⟨by omega, by omega, by omega, by omega, ?_⟩
          rw [e, Nat.or_comm, ← e2]
          omega
      obtain ⟨k1, k2, k3, k4, k5⟩ := key (32 * i) rfl
      refine Ar.fit (by omega) ?_
      refine Ar.fit (by omega) ?_
      refine Ar.fit (by omega) ?_
      refine Ob.mk ⟨k1, k2⟩ ?_
      refine Ar.fit ⟨k3, k4⟩ ?_
      refine ⟨_, k5.symm, ?_⟩
      refine Ar.fit (by omega) ?_
      exact ⟨i + 1, ⟨by omega, by omega⟩, sub_of [(0, some 0), (1, some 1)] rfl rfl rfl ⟨rfl, rfl, rfl, trivial⟩ ⟨rfl, rfl, trivial⟩, by dsimp only; omega⟩
  · have h4 : (digs z.natAbs).length = i := by rw [ofZ_mag] at h3; omega
    have e : val ((digs z.natAbs).take i) = z.natAbs := by rw [val_take_all (by omega), val_digs]
    have hz : z.natAbs < 18446744073709551616 := by
      have := val_take_lt (digs z.natAbs) i
      rw [e] at this
      refine Nat.lt_of_lt_of_le this (Nat.le_trans (Nat.pow_le_pow_right (by decide) h1) (by decide))
    have good : ∀ n : Int, n = z → -9223372036854775808 ≤ z ∧ z ≤ 9223372036854775807 → LE (.tup [i64 n, bl true]) (.tup [i64 (fitI z), pr (-9223372036854775808 ≤ z ∧ z ≤ 9223372036854775807)]) := fun n hn h =>
      LE_tup2 (LE_int (by rw [fitI, if_pos h, hn])) (LE_true h)
    have hn := ofZ_neg z
    refine Br.mk (fun g1 => ?_) (fun g1 => ?_)
    · rw [hn] at g1
      refine Br.mk (fun g2 => ?_) (fun g2 => ?_)
      · refine Ar.wrap ?_
        refine Ar.wrap ?_
        refine good _ ?_ (by omega)
        rw [e, wrap64]
        show IntKind.i64.wrap _ = _
        simp only [IntKind.wrap, IntKind.bits, IntKind.signed]
        simp
        omega
      · refine Br.mk (fun g3 => absurd (hn.2 g1) g3) (fun _ => bad (by omega))
    · refine Br.mk (fun g3 => ?_) (fun g3 => absurd (fun h => g1 h) g3)
      rw [hn] at g1
      refine Br.mk (fun g2 => ?_) (fun g2 => bad (by omega))
      refine Ar.fit (by omega) ?_
      exact good _ (by omega) (by omega)

end Go.Gs
/- Rounded division of machine integers: two texts, one answer. -/
namespace Go.Gs
open Go.Proofs

theorem fitI_range (z : Int) : R64 (fitI z) := by
  unfold fitI; split
  · assumption
  · decide

theorem r8_muldiv (a b c : Int) (ha : R64 a) (hb : R64 b) (hc : R64 c) : CallsG Tryz.prog 292 [i64 a, i64 b, i64 c] []
    (.tup [i64 (fitI (rdiv (a * b) c)), pr (c ≠ 0 ∧ -9223372036854775808 ≤ rdiv (a * b) c ∧ rdiv (a * b) c ≤ 9223372036854775807)]) [] := by
  refine calls_to tok mix Tryz.func292 rfl rfl rfl ?_
  refine Br.mk (fun h => ?_) (fun h => ?_)
  · refine LE_tup2 (LE_int ?_) (LE_false fun h' => h'.1 h)
    subst h
    simp [rdiv, fitI]
  have l1 := zlen_i64 ha
  have l2 := zlen_i64 hb
  have l3 := zlen_i64 hc
  have l4 := zlen_mul a b
  unfold zlen at l1 l2 l3 l4
  refine CallV.to _ (r2_fromint a ha) rfl ?_
  refine CallV.to _ (r2_fromint b hb) rfl ?_
  refine CallV.to _ (r2_mul (ofZ a) (ofZ b) (by rw [ofZ_mag]; omega) (by rw [ofZ_mag]; omega)) rfl ?_
  rw [ofZ_v, ofZ_v]
  refine CallV.to _ (r2_fromint c hc) rfl ?_
  refine CallV.to _ (r2_divround (ofZ (a * b)) (ofZ c) (by rw [ofZ_mag]; omega) (by rw [ofZ_mag]; omega) (by rw [ofZ_v]; exact h)) rfl ?_
  rw [ofZ_v, ofZ_v]
  have l5 : (digs (rdiv (a * b) c).natAbs).length ≤ 6 := by
    refine digs_len (Nat.lt_of_le_of_lt (m := 2 * (a * b).natAbs + c.natAbs) ?_ ?_)
    · rw [rdiv_abs]; exact Nat.div_le_self _ _
    · have p1 := zlen_lt (z := a * b) (k := 4) (by unfold zlen; omega)
      have e4 : 4294967296 ^ 4 = 340282366920938463463374607431768211456 := by decide
      have e6 : 4294967296 ^ 6 = 6277101735386680763835789423207666416102355444464034512896 := by decide
      rw [e4] at p1
      rw [e6]; omega
  refine CallV.to _ (r2_toint (ofZ (rdiv (a * b) c)) (by rw [ofZ_mag]; omega)) rfl ?_
  rw [ofZ_v]
  exact LE_tup2 .refl (LE_pr ⟨fun g => ⟨h, g⟩, fun g => g.2⟩)

theorem r8_divround (a b : Int) (ha : R64 a) (hb : R64 b) : CallsG Tryz.prog 252 [i64 a, i64 b] [] (i64 (fitI (rdiv a b))) [] := by
  refine calls_to tok mix Tryz.func252 rfl rfl rfl ?_
  refine CallV.to _ (r8_muldiv a 1 b ha (by decide) hb) rfl ?_
  rw [Int.mul_one]
  exact .refl

/-! ### The program's -/
theorem c_size64 (n : Int) (hn : R64 n) : CallsG Tryz.prog 278 [i64 n] [] (u64 (n.natAbs : Nat)) [] := by
  refine calls_to tok mix Tryz.func278 rfl rfl rfl ?_
  refine Br.mk (fun h => ?_) (fun h => ?_)
  · refine Ar.wrap ?_
    refine Ar.wrap ?_
    exact LE_int (by rw [wrap64, wrap64]; omega)
  · refine Ar.fit (by omega) ?_
    exact LE_int (by omega)

theorem and32 (x : Nat) : bitsK .and .u64 x 4294967295 = ((x % 4294967296 : Nat) : Int) := by
  have e : (BitVec.ofInt 64 x &&& BitVec.ofInt 64 4294967295).toNat = x % 4294967296 := by
    rw [BitVec.toNat_and]
    have h1 : (BitVec.ofInt 64 4294967295).toNat = 2 ^ 32 - 1 := by decide
    rw [h1, Nat.and_two_pow_sub_one_eq_mod, BitVec.toNat_ofInt]
    rw [show (2 : Nat) ^ 32 = 4294967296 by decide]
    omega
  show IntKind.u64.wrap ((BitVec.ofInt 64 x &&& BitVec.ofInt 64 4294967295).toNat : Nat) = _
  rw [e, wrap64]; omega

theorem c_mul64 (x y : Nat) (hx : x < 18446744073709551616) (hy : y < 18446744073709551616) :
    CallsG Tryz.prog 277 [u64 x, u64 y] [] (.tup [u64 (x * y / 18446744073709551616 : Nat), u64 (x * y % 18446744073709551616 : Nat)]) [] := by
  refine calls_to tok mix Tryz.func277 rfl rfl rfl ?_
  obtain ⟨k1, k2, k3, k4⟩ := Go.Lib.mul64_hi x y hx hy
  have k0 : (x / 4294967296) * (y % 4294967296) ≤ (x / 4294967296) * (y % 4294967296) + (x % 4294967296) * (y % 4294967296) / 4294967296 := Nat.le_add_right _ _
  have k5 : x * y / 18446744073709551616 < 18446744073709551616 := by
    rw [Nat.div_lt_iff_lt_mul (by decide)]
    exact Nat.mul_lt_mul_of_lt_of_lt hx hy
  refine ⟨_, (and32 x).symm, ?_⟩
  refine Ob.mk (by decide) ?_
  refine ⟨_, (and32 y).symm, ?_⟩
  refine Ob.mk (by decide) ?_
  have ex : (x : Int) / 2 ^ 32 = ((x / 4294967296 : Nat) : Int) := by simp
  have ey : (y : Int) / 2 ^ 32 = ((y / 4294967296 : Nat) : Int) := by simp
  have hc := Go.Lib.half_mul_le (a := x % 4294967296) (b := y / 4294967296) (by omega) (by omega)
  have ha := Go.Lib.half_mul_le (a := x / 4294967296) (b := y / 4294967296) (by omega) (by omega)
  rw [ex, ey]
  generalize hx1 : x / 4294967296 = x1 at *
  generalize hx0 : x % 4294967296 = x0 at *
  generalize hy1 : y / 4294967296 = y1 at *
  generalize hy0 : y % 4294967296 = y0 at *
  refine Ar.fit (by omega) ?_
  refine Ar.fit (by omega) ?_
  refine Ob.mk (by decide) ?_
  have e1 : ((x0 : Int) * (y0 : Int)) / 2 ^ 32 = ((x0 * y0 / 4294967296 : Nat) : Int) := by simp
  rw [e1]
  generalize x0 * y0 / 4294967296 = w0 at *
  refine Ar.fit (by omega) ?_
  have e2 : (x1 : Int) * (y0 : Int) + (w0 : Int) = ((x1 * y0 + w0 : Nat) : Int) := by simp
  rw [e2]
  generalize x1 * y0 + w0 = t at *
  refine ⟨_, (and32 t).symm, ?_⟩
  refine Ob.mk (by decide) ?_
  have e3 : (t : Int) / 2 ^ 32 = ((t / 4294967296 : Nat) : Int) := by simp
  rw [e3]
  refine Ar.fit (by omega) ?_
  refine Ar.fit (by omega) ?_
  refine Ar.fit (by omega) ?_
  refine Ar.fit (by omega) ?_
  refine Ob.mk (by decide) ?_
  have e4 : (((t % 4294967296 : Nat) : Int) + (x0 : Int) * (y1 : Int)) / 2 ^ 32 = (((t % 4294967296 + x0 * y1) / 4294967296 : Nat) : Int) := by simp
  rw [e4]
  refine Ar.fit (by omega) ?_
  refine Ar.wrap ?_
  refine LE_tup2 (LE_int ?_) (LE_int ?_)
  · rw [← k4]; simp
  · rw [wrap64]; simp

theorem c_div64 (lo y : Nat) (hlo : lo < 18446744073709551616) (hy : y < 18446744073709551616) (h0 : y ≠ 0) :
    CallsG Tryz.prog 304 [u64 (0 : Nat), u64 lo, u64 y] [] (.tup [u64 (lo / y : Nat), u64 (lo % y : Nat)]) [] := by
  refine calls_to tok mix Tryz.func304 rfl rfl rfl ?_
  refine Br.mk (fun h => absurd h (by omega)) (fun _ => ?_)
  refine Br.mk (fun h => absurd h (by omega)) (fun _ => ?_)
  refine Br.mk (fun _ => ?_) (fun h => absurd rfl h)
  refine Dr.mk (by decide +kernel) ?_
  refine Dv.pos ⟨by omega, by omega, by show _ ≤ (18446744073709551615 : Int); omega⟩ ?_
  refine Dv.pos ⟨by omega, by omega⟩ ?_
  exact LE_tup2 (LE_int (by simp)) (LE_int (by simp))

/-- The quotient, rounded half up. -/
def rup (lo by_ : Nat) : Nat := (2 * lo + by_) / (2 * by_)
theorem rup_eq {lo y : Nat} (h0 : y ≠ 0) : rup lo y = if y ≤ 2 * (lo % y) then lo / y + 1 else lo / y := by
  unfold rup
  have e := Nat.div_add_mod lo y
  have hl := Nat.mod_lt lo (Nat.pos_of_ne_zero h0)
  generalize lo / y = q at *
  generalize lo % y = r at *
  subst e
  have p : 2 * (y * q + r) + y = 2 * y * q + (2 * r + y) := by rw [Nat.mul_add, Nat.mul_assoc]; omega
  rw [p, Nat.mul_add_div (by omega)]
  split
  · have : (2 * r + y) / (2 * y) = 1 := by
      rw [Nat.div_eq_iff (by omega)]; omega
    omega
  · have : (2 * r + y) / (2 * y) = 0 := Nat.div_eq_of_lt (by omega)
    omega

theorem c_near (lo y : Nat) (hlo : lo ≤ 9223372036854775808) (hy : y < 18446744073709551616) (h0 : y ≠ 0) :
    CallsG Tryz.prog 280 [.agg [u64 (0 : Nat), u64 lo, u64 y]] [] (.tup [u64 (rup lo y : Nat), bl true]) [] := by
  refine calls_to tok mix Tryz.func280 rfl rfl rfl ?_
  refine Br.mk (fun h => absurd h (by omega)) (fun _ => ?_)
  refine CallV.to _ (c_div64 lo y (by omega) hy h0) rfl ?_
  have hq := Nat.div_le_self lo y
  have hr := Nat.mod_lt lo (Nat.pos_of_ne_zero h0)
  have he := rup_eq (lo := lo) h0
  generalize rup lo y = u at *
  generalize lo / y = q at *
  generalize lo % y = r at *
  refine Ar.fit (by omega) ?_
  refine Br.mk (fun h => ?_) (fun h => ?_)
  · rw [if_pos (by omega)] at he
    refine Ar.fit (by omega) ?_
    exact LE_tup2 (LE_int (by omega)) (LE_yes (by omega))
  · rw [if_neg (by omega)] at he
    exact LE_tup2 (LE_int (by omega)) .refl

theorem c_signed (p : Prop) [i : Decidable p] (lo y : Nat) (hlo : lo ≤ 9223372036854775808) (hy : y < 18446744073709551616) (h0 : y ≠ 0) :
    CallsG Tryz.prog 279 [.pr p i, .val (.func (.func 280) #[.agg #[.int .u64 (0 : Nat), .int .u64 (lo : Nat), .int .u64 (y : Nat)]] #[])] []
      (.tup [i64 (fitI (if p then -(rup lo y : Int) else rup lo y)), pr (-9223372036854775808 ≤ (if p then -(rup lo y : Int) else rup lo y) ∧ (if p then -(rup lo y : Int) else rup lo y) ≤ 9223372036854775807)]) [] := by
  refine calls_to tok mix Tryz.func279 rfl rfl rfl ?_
  refine CallV.to _ (c_near lo y hlo hy h0) rfl ?_
  have hu : rup lo y < 18446744073709551616 := by
    rw [rup_eq h0]
    have := Nat.div_le_self lo y
    split <;> omega
  generalize rup lo y = u at *
  have bad : ∀ z : Int, ¬ (-9223372036854775808 ≤ z ∧ z ≤ 9223372036854775807) → LE (.tup [i64 0, bl false]) (.tup [i64 (fitI z), pr (-9223372036854775808 ≤ z ∧ z ≤ 9223372036854775807)]) := fun z h =>
    LE_tup2 (LE_int (by rw [fitI, if_neg h])) (LE_false h)
  have good : ∀ n z : Int, n = z → -9223372036854775808 ≤ z ∧ z ≤ 9223372036854775807 → LE (.tup [i64 n, bl true]) (.tup [i64 (fitI z), pr (-9223372036854775808 ≤ z ∧ z ≤ 9223372036854775807)]) := fun n z hn h =>
    LE_tup2 (LE_int (by rw [fitI, if_pos h, hn])) (LE_true h)
  refine Br.mk (fun h => bad _ (by split <;> omega)) (fun h => ?_)
  have tail : (u : Int) ≤ 9223372036854775808 → ((u : Int) = 9223372036854775808 → p) → IntKind.i64.wrap (IntKind.u64.wrap (-(u : Int))) = -(u : Int) ∧ (¬ p → (u : Int) ≤ 9223372036854775807) := fun g1 g2 => by
    refine ⟨?_, fun hp => ?_⟩
    · rw [wrap64]
      simp only [IntKind.wrap, IntKind.bits, IntKind.signed]
      simp
      omega
    · by_cases e : (u : Int) = 9223372036854775808
      · exact absurd (g2 e) hp
      · omega
  refine Br.mk (fun h1 => ?_) (fun h1 => ?_)
  · refine Br.mk (fun h2 => bad _ (by rw [if_neg h2]; omega)) (fun h2 => ?_)
    have hp := Decidable.not_not.1 h2
    obtain ⟨t1, t2⟩ := tail (by omega) (fun _ => hp)
    refine Br.mk (fun _ => ?_) (fun h3 => absurd hp h3)
    refine Ar.wrap ?_
    refine Ar.wrap ?_
    exact good _ _ (by rw [if_pos hp]; exact t1) (by rw [if_pos hp]; omega)
  · obtain ⟨t1, t2⟩ := tail (by omega) (fun h => absurd h h1)
    refine Br.mk (fun h3 => ?_) (fun h3 => ?_)
    · refine Ar.wrap ?_
      refine Ar.wrap ?_
      exact good _ _ (by rw [if_pos h3]; exact t1) (by rw [if_pos h3]; omega)
    · have := t2 h3
      refine Ar.fit (by omega) ?_
      exact good _ _ (by rw [if_neg h3]) (by rw [if_neg h3]; omega)

theorem rdiv_rup (a c : Int) : (if ¬ (¬ (a < 0 ↔ (1 : Int) < 0) ↔ c < 0) then -(rup a.natAbs c.natAbs : Int) else (rup a.natAbs c.natAbs : Int)) = rdiv a c := by
  unfold rdiv
  show _ = if a < 0 ↔ c < 0 then ((rup a.natAbs c.natAbs : Nat) : Int) else -((rup a.natAbs c.natAbs : Nat) : Int)
  generalize (rup a.natAbs c.natAbs : Int) = u
  by_cases h1 : a < 0 <;> by_cases h2 : c < 0 <;> simp [h1, h2]

theorem c_muldiv1 (a c : Int) (ha : R64 a) (hc : R64 c) : CallsG Tryz.prog 232 [i64 a, i64 1, i64 c] []
    (.tup [i64 (fitI (rdiv a c)), pr (c ≠ 0 ∧ -9223372036854775808 ≤ rdiv a c ∧ rdiv a c ≤ 9223372036854775807)]) [] := by
  refine calls_to tok mix Tryz.func232 rfl rfl rfl ?_
  refine Br.mk (fun h => ?_) (fun h => ?_)
  · refine LE_tup2 (LE_int ?_) (LE_false fun h' => h'.1 h)
    subst h
    simp [rdiv, fitI]
  refine CallV.to _ (c_size64 a ha) rfl ?_
  refine CallV.to _ (c_size64 1 (by decide)) rfl ?_
  refine CallV.to _ (c_mul64 a.natAbs (1 : Int).natAbs (by omega) (by omega)) rfl ?_
  rw [show (1 : Int).natAbs = 1 by rfl, Nat.mul_one, Nat.div_eq_of_lt (show a.natAbs < 18446744073709551616 by omega), Nat.mod_eq_of_lt (show a.natAbs < 18446744073709551616 by omega)]
  refine CallV.to _ (c_size64 c hc) rfl ?_
  refine CallV.to _ (c_signed (¬ (¬ (a < 0 ↔ (1 : Int) < 0) ↔ c < 0)) a.natAbs c.natAbs (by omega) (by omega) (by omega)) rfl ?_
  rw [rdiv_rup a c]
  exact LE_tup2 .refl (LE_pr ⟨fun g => ⟨h, g⟩, fun g => g.2⟩)

theorem c_divround (a b : Int) (ha : R64 a) (hb : R64 b) : CallsG Tryz.prog 167 [i64 a, i64 b] [] (i64 (fitI (rdiv a b))) [] := by
  refine calls_to tok mix Tryz.func167 rfl rfl rfl ?_
  refine CallV.to _ (c_muldiv1 a b ha hb) rfl ?_
  exact .refl

end Go.Gs
/- Natural numbers, the program's: copies, comparing, sums, differences. -/
namespace Go.Gs
open Go.Proofs

theorem n_short (a : List Dig) (ha : a.length ≤ 1000000000) : CallsG Tryz.prog 282 [.sl dgE a] [] (.full dgE (digs (val a))) [] := by
  refine calls_to tok mix Tryz.func282 rfl rfl rfl ?_
  intro hl0
  refine ⟨Nat, fun n => ⟨[(3, i64 n), (0, .sl dgE a)], [], 0, 22, 0⟩, fun n => n ≤ a.length ∧ ∀ i, n ≤ i → dig a i = 0, fun n => n, a.length, ?_, ?_, ?_⟩
  · exact ⟨Nat.le_refl _, fun i h => dig_out h⟩
  · exact sub_of [] rfl rfl rfl ⟨rfl, rfl, trivial⟩ trivial
  rintro n ⟨h1, h2⟩
  have post : (n = 0 ∨ dig a (n - 1) ≠ 0) → ((a.drop (0 : Int).toNat).take ((n : Int) - 0).toNat) = digs (val a) := fun h3 => by
    rw [← normd_take h3 h1 h2]; simp
  refine Br.mk (fun h3 => ?_) (fun h3 => ?_)
  · refine Ar.fit (by omega) ?_
    refine Ob.mk (by omega) ?_
    intro x hx
    rw [show ((n : Int) - 1).toNat = n - 1 by omega] at hx
    have dx := dig_some hx
    refine Br.mk (fun h4 => ?_) (fun h4 => ?_)
    · refine Ar.fit (by omega) ?_
      refine ⟨n - 1, ⟨by omega, fun i hi => ?_⟩, sub_of [] rfl rfl rfl ⟨congrArg (fun n => some (i64 n)) (by omega), rfl, trivial⟩ trivial, by dsimp only; omega⟩
      by_cases e : i = n - 1
      · subst e; rw [dx]; omega
      · exact h2 i (by omega)
    · refine FullC.full (Ob.mk ⟨⟨by omega, by omega, rfl, by omega⟩, fun _ _ => rfl⟩ ?_)
      exact LE_full (post (.inr (by omega)))
  · refine FullC.full (Ob.mk ⟨⟨by omega, by omega, rfl, by omega⟩, fun _ _ => rfl⟩ ?_)
    exact LE_full (post (.inl (by omega)))
theorem n_shortS (a : List Dig) (ha : a.length ≤ 1000000000) : CallsG Tryz.prog 282 [.sl dgE a] [] (.sl dgE (digs (val a))) [] := (n_short a ha).le (LE_full_sl rfl)

theorem n_clone (q : List Dig) (hq : q.length ≤ 1000000000) : CallsG Tryz.prog 281 [.sl dgE q] [] (.sl dgE q) [] := by
  refine calls_to tok mix Tryz.func281 rfl rfl rfl ?_
  by_cases h0 : q = []
  · refine NilC.any (Br.mk ?_ ?_)
    · subst h0; exact LE_nil0
    · refine ⟨Dig, dgE, [], rfl, Ob.mk dNone ?_⟩
      refine ⟨q, rfl, Ob.mk (dApp (by simp only [List.length_nil]; omega)) ?_⟩
      exact LE_sl rfl
  · refine NilC.some (fun h => h0 (List.eq_nil_of_length_eq_zero h)) ?_
    refine ⟨Dig, dgE, [], rfl, Ob.mk dNone ?_⟩
    refine ⟨q, rfl, Ob.mk (dApp (by simp only [List.length_nil]; omega)) ?_⟩
    exact LE_sl rfl

theorem n_normalize (a : List Dig) (ha : a.length ≤ 1000000000) : CallsG Tryz.prog 233 [.sl dgE a] [] (.sl dgE (digs (val a))) [] := by
  refine calls_to tok mix Tryz.func233 rfl rfl rfl ?_
  refine CallV.to _ (n_shortS a ha) rfl ?_
  refine CallV.to _ (n_clone _ (by have := digs_val_len a; omega)) rfl ?_
  exact .refl

theorem n_fromU64 (n : Nat) (hn : n < 18446744073709551616) : CallsG Tryz.prog 169 [u64 n] [] (.sl dgE (digs n)) [] := by
  refine calls_to tok mix Tryz.func169 rfl rfl rfl ?_
  refine Ar.wrap ?_
  refine Ob.mk (by decide) ?_
  refine Ar.wrap ?_
  refine ⟨Dig, dgE, [dof n, dof (n / 4294967296)], congr (congrArg (fun n m => [u32 n, u32 m]) (dofW rfl)) (dofW (by simp only [Int.reducePow]; omega)), Ob.mk (dTwo _ _) ?_⟩
  refine CallV.see 0 _ (n_normalize [dof n, dof (n / 4294967296)] (by simp)) rfl rfl rfl ?_
  rw [val_two _ hn]
  exact .refl

theorem n_digit (a : List Dig) (i : Int) (hi : 0 ≤ i) : CallsG Tryz.prog 287 [.sl dgE a, i64 i] [] (u64 (dig a i.toNat)) [] := by
  refine calls_to tok mix Tryz.func287 rfl rfl rfl ?_
  intro hl
  refine Br.mk (fun h => ?_) (fun h => ?_)
  · refine Ob.mk (by omega) ?_
    intro x hx
    have := x.isLt
    refine Ar.fit (by omega) ?_
    exact LE_int (by rw [dig_some hx])
  · exact LE_int (by rw [dig_out (by omega)]; rfl)

theorem digs_lenlt {A B : Nat} (h : (digs A).length < (digs B).length) : A < B := by
  have h1 := digs_lt (n := A) (Nat.le_refl _)
  have h2 := digs_ge (n := B) (fun e => by rw [e, digs_zero] at h; simp at h)
  exact Nat.lt_of_lt_of_le h1 (Nat.le_trans (Nat.pow_le_pow_right (by decide) (by omega)) h2)

theorem n_cmp (a b : List Dig) (ha : a.length ≤ 1000000000) (hb : b.length ≤ 1000000000) :
    CallsG Tryz.prog 248 [.sl dgE a, .sl dgE b] [] (i64 (cmpN (val a) (val b))) [] := by
  refine calls_to tok mix Tryz.func248 rfl rfl rfl ?_
  refine CallV.to _ (n_shortS a ha) rfl ?_
  refine CallV.to _ (n_shortS b hb) rfl ?_
  have la := digs_val_len a
  have lb := digs_val_len b
  generalize val a = A at *
  generalize val b = B at *
  intro hl1 hl2
  refine Br.mk (fun h3 => ?_) (fun h3 => ?_)
  · intro hl4 hl5
    refine Br.mk (fun h6 => ?_) (fun h6 => ?_)
    · have := digs_lenlt (A := A) (B := B) (by omega)
      exact LE_int (by rw [cmpN, if_pos this])
    · have := digs_lenlt (A := B) (B := A) (by omega)
      exact LE_int (by rw [cmpN, if_neg (by omega), if_pos this])
  have h3 : (digs A).length = (digs B).length := by omega
  intro hl7
  refine Ar.fit (by omega) ?_
  refine ⟨Nat, fun j => ⟨[(5, i64 ((j : Int) - 1)), (0, .sl dgE (digs A)), (1, .sl dgE (digs B))], [], 0, 45, 0⟩, fun j => j ≤ (digs A).length ∧ ∀ i, j ≤ i → dig (digs A) i = dig (digs B) i, fun j => j, (digs A).length, ?_, ?_, ?_⟩
  · exact ⟨by omega, fun i hi => by rw [dig_out (by omega), dig_out (by omega)]⟩
  · exact sub_of [] rfl rfl rfl ⟨rfl, rfl, rfl, trivial⟩ trivial
  rintro j ⟨h1, h2⟩
  refine Br.mk (fun h8 => ?_) (fun h8 => ?_)
  · have h2' : ∀ i, j - 1 + 1 ≤ i → dig (digs A) i = dig (digs B) i := fun i hi => h2 i (by omega)
    refine Dr.mk (by decide +kernel) ?_
    refine Ob.mk (by omega) ?_
    intro x hx
    rw [show ((j : Int) - 1).toNat = j - 1 by omega] at hx
    have dx := dig_some hx
    refine Ob.mk (by omega) ?_
    intro y hy
    rw [show ((j : Int) - 1).toNat = j - 1 by omega] at hy
    have dy := dig_some hy
    refine Br.mk (fun h4 => ?_) (fun h4 => ?_)
    · have := cmp_step h2' (by omega)
      rw [val_digs, val_digs] at this
      exact LE_int (by rw [cmpN, if_pos this])
    refine Dr.mk (by decide +kernel) ?_
    refine Ob.mk (by omega) ?_
    intro x' hx'
    rw [show ((j : Int) - 1).toNat = j - 1 by omega, hx] at hx'
    cases hx'
    refine Ob.mk (by omega) ?_
    intro y' hy'
    rw [show ((j : Int) - 1).toNat = j - 1 by omega, hy] at hy'
    cases hy'
    refine Br.mk (fun h5 => ?_) (fun h5 => ?_)
    · have := cmp_step (fun i hi => (h2' i hi).symm) (by omega)
      rw [val_digs, val_digs] at this
      exact LE_int (by rw [cmpN, if_neg (by omega), if_pos this])
    refine Ar.fit (by omega) ?_
    refine ⟨j - 1, ⟨by omega, fun i hi => ?_⟩, sub_of [] rfl rfl rfl ⟨congrArg (fun n => some (i64 n)) (by omega), rfl, rfl, trivial⟩ trivial, by dsimp only; omega⟩
    by_cases hij : i = j - 1
    · subst hij; omega
    · exact h2 i (by omega)
  · have hj : j = 0 := by omega
    subst hj
    have := val_congr fun i => h2 i (Nat.zero_le _)
    rw [val_digs, val_digs] at this
    exact LE_int (by rw [cmpN, if_neg (by omega), if_neg (by omega)])

set_option maxRecDepth 100000 in
theorem n_add (a b : List Dig) (ha : a.length ≤ 900000000) (hb : b.length ≤ 900000000) :
    CallsG Tryz.prog 238 [.sl dgE a, .sl dgE b] [] (.sl dgE (digs (val a + val b))) [] := by
  refine calls_to tok mix Tryz.func238 rfl rfl rfl ?_
  intro hl1 hl2
  refine Ar.fit (by simp only [maxL]; omega) ?_
  have en : maxL (a.length : Int) [(b.length : Int)] + 1 = ((max a.length b.length + 1 : Nat) : Int) := by simp only [maxL]; omega
  change ∃ _, _
  rw [en]
  generalize hn : max a.length b.length + 1 = n at *
  refine ⟨Dig, dgE, 0, rfl, Ob.mk ⟨by decide, by omega, by omega, (by show _ * (4 : Int) ≤ _; omega), by omega⟩ ?_⟩
  intro hl3
  refine ⟨Nat × List Dig × Nat, fun ⟨i, out, c⟩ => ⟨[(17, i64 i), (16, i64 n), (6, u64 c), (5, .own 0), (0, .sl dgE a), (1, .sl dgE b)], [(0, dArr out)], 1, 39, 0⟩,
    fun q => q.1 ≤ n ∧ q.2.1.length = n ∧ q.2.2 ≤ 1 ∧ (∀ j, q.1 ≤ j → dig q.2.1 j = 0) ∧ val q.2.1 + 4294967296 ^ q.1 * q.2.2 = val (a.take q.1) + val (b.take q.1), fun q => n - q.1, (0, List.replicate n 0, 0), ?_, ?_, ?_⟩
  · exact ⟨Nat.zero_le _, by simp, Nat.zero_le _, fun j _ => dig_replicate _ _, by simp [val_zeros, val]⟩
  · exact sub_of [(0, some 0)] rfl rfl rfl ⟨rfl, congrArg (fun n => some (i64 n)) (by simp), rfl, rfl, rfl, rfl, trivial⟩ ⟨rfl, trivial⟩
  rintro ⟨i, out, c⟩ ⟨h1, h2, h3, h4, h5⟩
  dsimp only at h1 h2 h3 h4 h5
  refine Br.mk (fun h6 => ?_) (fun h6 => ?_)
  · have d1 := dig_lt a i
    have d2 := dig_lt b i
    refine CallV.to _ (n_digit a _ (by omega)) rfl ?_
    refine CallV.to _ (n_digit b _ (by omega)) rfl ?_
    simp only [Int.toNat_natCast]
    refine Ar.fit (by omega) ?_
    refine Ar.fit (by omega) ?_
    refine Ar.wrap ?_
    refine Ob.mk (by omega) ?_
    refine Ob.mk (by omega) ?_
    intro z hz
    refine ⟨dof (dig a i + dig b i + c), congrArg (fun n => [u32 n]) (dofW (by omega)), ?_⟩
    refine Ob.mk (by decide) ?_
    refine Ar.fit (by omega) ?_
    refine ⟨(i + 1, out.set i (dof (dig a i + dig b i + c)), (dig a i + dig b i + c) / 4294967296), ⟨by dsimp only; omega, by simp [h2], by dsimp only; omega, fun j hj => ?_, ?_⟩,
      sub_of [(0, some 0)] rfl rfl rfl ⟨rfl, rfl, congrArg (fun n => some (u64 n)) (by simp only [Int.reducePow]; omega), rfl, rfl, rfl, trivial⟩ ⟨rfl, trivial⟩, by dsimp only; omega⟩
    · dsimp only at hj ⊢
      rw [dig_set, if_neg (by omega)]; exact h4 j (by omega)
    · dsimp only
      have hs := val_set out i (dof (dig a i + dig b i + c)) (by omega)
      rw [h4 i (Nat.le_refl _), dof_val, Nat.mul_zero, Nat.add_zero] at hs
      rw [hs, val_take_succ, val_take_succ, Nat.pow_succ]
      have e := Nat.div_add_mod (dig a i + dig b i + c) 4294967296
      generalize (dig a i + dig b i + c) / 4294967296 = x at *
      generalize (dig a i + dig b i + c) % 4294967296 = y at *
      generalize 4294967296 ^ i = p at *
      clear hs h4
      grind
  · have hi : i = n := by omega
    subst hi
    rw [val_take_all (by omega), val_take_all (by omega)] at h5
    have hc : c = 0 := by
      have l1 := Nat.lt_of_lt_of_le (val_lt a) (Nat.pow_le_pow_right (show 0 < 4294967296 by decide) (show a.length ≤ i - 1 by omega))
      have l2 := Nat.lt_of_lt_of_le (val_lt b) (Nat.pow_le_pow_right (show 0 < 4294967296 by decide) (show b.length ≤ i - 1 by omega))
      have e : 4294967296 ^ i = 4294967296 ^ (i - 1) * 4294967296 := by rw [← Nat.pow_succ]; congr 1; omega
      have : c = 0 ∨ c = 1 := by omega
      rcases this with h | h
      · exact h
      · subst h; omega
    subst hc
    refine CallV.see 0 _ (n_shortS out (by omega)) rfl rfl rfl ?_
    rw [show val out = val a + val b by omega]
    exact .refl

set_option maxRecDepth 100000 in
theorem n_sub (a b : List Dig) (ha : a.length ≤ 900000000) (hb : b.length ≤ 900000000) :
    CallsG Tryz.prog 239 [.sl dgE a, .sl dgE b] [] (.tup [.sl dgE (digs (val a - val b)), pr (val b ≤ val a)]) [] := by
  refine calls_to tok mix Tryz.func239 rfl rfl rfl ?_
  refine CallV.to _ (n_cmp a b (by omega) (by omega)) rfl ?_
  refine Br.mk (fun h => ?_) (fun h => ?_)
  · have hlt := cmpN_lt.1 h
    refine LE_tup2 ?_ (LE_false (by omega))
    rw [Nat.sub_eq_zero_of_le (by omega), digs_zero]; exact LE_nil0
  have hle : val b ≤ val a := Nat.le_of_not_lt fun h' => h (cmpN_lt.2 h')
  refine CallV.to _ (n_shortS a (by omega)) rfl ?_
  have la := digs_val_len a
  have ldef := digs_lt (n := val a) (Nat.le_refl _)
  intro hl2
  generalize hn : (digs (val a)).length = n at *
  refine ⟨Dig, dgE, 0, rfl, Ob.mk ⟨by decide, by omega, by omega, (by show _ * (4 : Int) ≤ _; omega), by omega⟩ ?_⟩
  intro hl3
  refine ⟨Nat × List Dig × Nat, fun ⟨i, out, c⟩ => ⟨[(20, i64 i), (19, i64 n), (7, u64 c), (6, .own 0), (0, .sl dgE a), (1, .sl dgE b)], [(0, dArr out)], 1, 42, 0⟩,
    fun q => q.1 ≤ n ∧ q.2.1.length = n ∧ q.2.2 ≤ 1 ∧ (∀ j, q.1 ≤ j → dig q.2.1 j = 0) ∧ val q.2.1 + val (b.take q.1) = val (a.take q.1) + 4294967296 ^ q.1 * q.2.2, fun q => n - q.1, (0, List.replicate n 0, 0), ?_, ?_, ?_⟩
  · exact ⟨Nat.zero_le _, by simp, Nat.zero_le _, fun j _ => dig_replicate _ _, by simp [val_zeros, val]⟩
  · exact sub_of [(0, some 0)] rfl rfl rfl ⟨rfl, congrArg (fun n => some (i64 n)) (by simp), rfl, rfl, rfl, rfl, trivial⟩ ⟨rfl, trivial⟩
  rintro ⟨i, out, c⟩ ⟨h1, h2, h3, h4, h5⟩
  dsimp only at h1 h2 h3 h4 h5
  refine Br.mk (fun h6 => ?_) (fun h6 => ?_)
  · have d1 := dig_lt a i
    have d2 := dig_lt b i
    refine CallV.to _ (n_digit a _ (by omega)) rfl ?_
    refine CallV.to _ (n_digit b _ (by omega)) rfl ?_
    simp only [Int.toNat_natCast]
    refine Ar.wrap ?_
    refine Ar.wrap ?_
    refine Ar.wrap ?_
    refine Ob.mk (by omega) ?_
    refine Ob.mk (by omega) ?_
    intro z hz
    refine ⟨dof (4294967296 + dig a i - dig b i - c), congrArg (fun n => [u32 n]) (by rw [wrap32, wrap64, wrap64, dof_val]; omega), ?_⟩
    refine Ob.mk (by decide) ?_
    refine Ar.fit (by omega) ?_
    refine ⟨(i + 1, out.set i (dof (4294967296 + dig a i - dig b i - c)), 1 - (4294967296 + dig a i - dig b i - c) / 4294967296), ⟨by dsimp only; omega, by simp [h2], by dsimp only; omega, fun j hj => ?_, ?_⟩,
      sub_of [(0, some 0)] rfl rfl rfl ⟨rfl, rfl, congrArg (fun n => some (u64 n)) (by rw [wrap64, wrap64]; simp only [Int.reducePow]; omega), rfl, rfl, rfl, trivial⟩ ⟨rfl, trivial⟩, by dsimp only; omega⟩
    · dsimp only at hj ⊢
      rw [dig_set, if_neg (by omega)]; exact h4 j (by omega)
    · dsimp only
      have hs := val_set out i (dof (4294967296 + dig a i - dig b i - c)) (by omega)
      rw [h4 i (Nat.le_refl _), dof_val, Nat.mul_zero, Nat.add_zero] at hs
      rw [hs, val_take_succ, val_take_succ, Nat.pow_succ]
      have e : (4294967296 + dig a i - dig b i - c) % 4294967296 + dig b i + c = dig a i + 4294967296 * (1 - (4294967296 + dig a i - dig b i - c) / 4294967296) := by omega
      generalize 1 - (4294967296 + dig a i - dig b i - c) / 4294967296 = x at *
      generalize (4294967296 + dig a i - dig b i - c) % 4294967296 = y at *
      generalize 4294967296 ^ i = p at *
      have e2 : p * y + p * dig b i + p * c = p * dig a i + p * 4294967296 * x := by
        rw [← Nat.mul_add, ← Nat.mul_add, e, Nat.mul_add, Nat.mul_assoc]
      omega
  · have hi : i = n := by omega
    subst hi
    have ea : val (a.take i) = val a := by rw [val_take, Nat.mod_eq_of_lt ldef]
    have eb : val (b.take i) = val b := by rw [val_take, Nat.mod_eq_of_lt (Nat.lt_of_le_of_lt hle ldef)]
    rw [ea, eb] at h5
    have e4 := val_lt out
    rw [h2] at e4
    have e : val out = val a - val b := by
      have : c = 0 ∨ c = 1 := by omega
      rcases this with rfl | rfl <;> omega
    refine CallV.see 0 _ (n_shortS out (by omega)) rfl rfl rfl ?_
    rw [e]
    exact LE_tup2 .refl (LE_true hle)

end Go.Gs
/- Knuth's estimate of a quotient's digit. -/
namespace Go.Gs

/-- The last two digits of a row and the rest. -/
theorem val_two_top (xs : List Dig) (n : Nat) (h : xs.length = n + 2) : ∃ r, r < 4294967296 ^ n ∧ val xs = (dig xs (n + 1) * 4294967296 + dig xs n) * 4294967296 ^ n + r := by
  refine ⟨val (xs.take n), val_take_lt xs n, ?_⟩
  have e1 := val_split xs n
  have e2 := val_drop_cons xs n
  have e3 := val_drop_cons xs (n + 1)
  rw [val_drop_out (show xs.length ≤ n + 1 + 1 by omega), Nat.mul_zero, Nat.add_zero] at e3
  rw [e3] at e2
  rw [e1, e2]
  generalize dig xs (n + 1) = a
  generalize dig xs n = b
  generalize 4294967296 ^ n = p
  grind

/-- What an estimate of the quotient's digit satisfies: it is exact or one too large. -/
theorem guess_ok {P v1 v2 rv top u2 ru q r : Nat} (hrv : rv < P) (hru : ru < P) (hv1 : 2147483648 ≤ v1) (hv2 : v2 < 4294967296) (e : q * v1 + r = top) (hq : q ≤ 4294967296)
    (hle : q * v2 ≤ r * 4294967296 + u2) (hQ : ((top * 4294967296 + u2) * P + ru) / ((v1 * 4294967296 + v2) * P + rv) ≤ q) :
    q = ((top * 4294967296 + u2) * P + ru) / ((v1 * 4294967296 + v2) * P + rv) ∨ q = ((top * 4294967296 + u2) * P + ru) / ((v1 * 4294967296 + v2) * P + rv) + 1 := by
  have hP : 0 < P := by omega
  have hV : 0 < (v1 * 4294967296 + v2) * P + rv := by
    have : 0 < (v1 * 4294967296 + v2) * P := Nat.mul_pos (by omega) hP
    omega
  have key : (q - 1) * ((v1 * 4294967296 + v2) * P + rv) ≤ (top * 4294967296 + u2) * P + ru := by
    rcases Nat.eq_zero_or_pos q with h0 | h0
    · subst h0; simp
    · obtain ⟨p, rfl⟩ : ∃ p, q = p + 1 := ⟨q - 1, by omega⟩
      rw [Nat.add_sub_cancel]
      have h1 : p * ((v1 * 4294967296 + v2) * P + rv) ≤ p * ((v1 * 4294967296 + v2 + 1) * P) := by
        refine Nat.mul_le_mul_left _ ?_
        rw [Nat.add_mul _ 1 P]; omega
      have h2 : p * (v1 * 4294967296 + v2 + 1) ≤ top * 4294967296 + u2 := by
        have a1 : (p + 1) * v1 = p * v1 + v1 := by rw [Nat.add_mul]; omega
        have a2 : (p + 1) * v2 = p * v2 + v2 := by rw [Nat.add_mul]; omega
        have a3 : p * (v1 * 4294967296 + v2 + 1) = (p * v1) * 4294967296 + p * v2 + p := by
          rw [Nat.mul_add, Nat.mul_add, Nat.mul_assoc]; omega
        rw [a1] at e
        rw [a2] at hle
        rw [a3]
        omega
      have h3 : p * ((v1 * 4294967296 + v2 + 1) * P) ≤ (top * 4294967296 + u2) * P := by
        rw [← Nat.mul_assoc]; exact Nat.mul_le_mul_right _ h2
      omega
  have := (Nat.le_div_iff_mul_le hV).2 key
  omega

/-- A guess that is still too large. -/
theorem guess_big {P v1 v2 rv top u2 ru q r : Nat} (hru : ru < P) (e : q * v1 + r = top) (hgt : r * 4294967296 + u2 < q * v2) :
    ((top * 4294967296 + u2) * P + ru) / ((v1 * 4294967296 + v2) * P + rv) < q := by
  have hP : 0 < P := by omega
  have hq : 0 < q := by
    rcases Nat.eq_zero_or_pos q with h | h
    · subst h; omega
    · exact h
  have h1 : top * 4294967296 + u2 + 1 ≤ q * (v1 * 4294967296 + v2) := by
    have a3 : q * (v1 * 4294967296 + v2) = (q * v1) * 4294967296 + q * v2 := by rw [Nat.mul_add, Nat.mul_assoc]
    rw [a3]; omega
  have h2 : (top * 4294967296 + u2) * P + ru < q * ((v1 * 4294967296 + v2) * P + rv) := by
    have a1 : (top * 4294967296 + u2 + 1) * P ≤ q * (v1 * 4294967296 + v2) * P := Nat.mul_le_mul_right _ h1
    have a2 : q * (v1 * 4294967296 + v2) * P ≤ q * ((v1 * 4294967296 + v2) * P + rv) := by
      rw [Nat.mul_assoc]; exact Nat.mul_le_mul_left _ (Nat.le_add_right _ _)
    rw [Nat.add_mul _ 1 P] at a1
    omega
  have hV : 0 < (v1 * 4294967296 + v2) * P + rv := by
    rcases Nat.eq_zero_or_pos ((v1 * 4294967296 + v2) * P + rv) with h | h
    · rw [h] at h2; omega
    · exact h
  exact (Nat.div_lt_iff_lt_mul hV).2 h2

/-- The digits that are taken off, one by one. -/
theorem take_step {p q c b ui y lo c' ui' b' U V R : Nat} (h : R + q * V = U + p * (c + b)) (hl : lo + 4294967296 * c' = c + q * y) (hu : ui' + lo + b = ui + 4294967296 * b') :
    R + p * ui' + q * (V + p * y) = U + p * ui + p * 4294967296 * (c' + b') := by
  have e1 : ui' + (c + q * y) + b = ui + 4294967296 * (c' + b') := by omega
  have e2 : p * (ui' + (c + q * y) + b) = p * (ui + 4294967296 * (c' + b')) := by rw [e1]
  grind

end Go.Gs
/- Natural numbers, the program's: products, quotients by one digit, guesses. -/
namespace Go.Gs
open Go.Proofs

set_option maxRecDepth 100000 in
set_option maxHeartbeats 1000000 in
theorem n_mul (a0 b0 : List Dig) (ha : a0.length ≤ 400000000) (hb : b0.length ≤ 400000000) :
    CallsG Tryz.prog 249 [.sl dgE a0, .sl dgE b0] [] (.sl dgE (digs (val a0 * val b0))) [] := by
  refine calls_to tok mix Tryz.func249 rfl rfl rfl ?_
  refine CallV.to _ (n_shortS a0 (by omega)) rfl ?_
  refine CallV.to _ (n_shortS b0 (by omega)) rfl ?_
  have la := digs_val_len a0
  have lb := digs_val_len b0
  have va := val_digs (val a0)
  have vb := val_digs (val b0)
  generalize digs (val a0) = a at *
  generalize digs (val b0) = b at *
  rw [← va, ← vb]
  clear va vb
  intro hl1 hl2
  refine Ar.fit (by omega) ?_
  refine ⟨Dig, dgE, 0, rfl, Ob.mk ⟨by decide, by omega, by omega, (by show _ * (4 : Int) ≤ _; omega), by omega⟩ ?_⟩
  intro hl3
  refine ⟨Nat × List Dig, fun ⟨i, out⟩ => ⟨[(23, i64 i), (22, i64 a.length), (21, .sl dgE a), (5, .own 0), (1, .sl dgE b)], [(0, dArr out)], 1, 73, 0⟩,
    fun q => q.1 ≤ a.length ∧ q.2.length = a.length + b.length ∧ val q.2 = val (a.take q.1) * val b ∧ ∀ j, q.1 + b.length ≤ j → dig q.2 j = 0, fun q => a.length - q.1, (0, List.replicate (a.length + b.length) 0), ?_, ?_, ?_⟩
  · exact ⟨Nat.zero_le _, by simp, by simp [val_zeros, val], fun j _ => dig_replicate _ _⟩
  · exact sub_of [(0, some 0)] rfl rfl rfl ⟨rfl, rfl, rfl, rfl, rfl, trivial⟩ ⟨congrArg (fun n => some (dArr (List.replicate n 0))) (by omega), trivial⟩
  rintro ⟨i, out0⟩ ⟨h1, h2, h3, h4⟩
  dsimp only at h1 h2 h3 h4
  refine Br.mk (fun h5 => ?_) (fun h5 => ?_)
  · refine Ob.mk (by omega) ?_
    intro x hx
    have hx : a[i]? = some x := hx
    have dx := dig_some hx
    have hxl := x.isLt
    refine Br.mk (fun h6 => ?_) (fun h6 => ?_)
    · refine Ar.fit (by omega) ?_
      refine ⟨(i + 1, out0), ⟨by dsimp only; omega, h2, ?_, fun j hj => h4 j (by dsimp only at hj; omega)⟩, sub_of [(0, some 0)] rfl rfl rfl ⟨rfl, rfl, rfl, rfl, rfl, trivial⟩ ⟨rfl, trivial⟩, by dsimp only; omega⟩
      dsimp only
      rw [val_take_succ, dx, show x.val = 0 by omega, Nat.mul_zero, Nat.add_zero]; exact h3
    intro hl6
    refine ⟨Nat × List Dig × Nat, fun ⟨k, out, c⟩ => ⟨[(32, i64 k), (31, i64 b.length), (30, .sl dgE b), (8, u64 c), (7, u32 x.val), (6, i64 i), (23, i64 i), (22, i64 a.length), (21, .sl dgE a), (5, .own 0), (1, .sl dgE b)], [(0, dArr out)], 1, 73, 0⟩,
      fun q => q.1 ≤ b.length ∧ q.2.1.length = a.length + b.length ∧ q.2.2 < 4294967296 ∧ val q.2.1 + 4294967296 ^ (i + q.1) * q.2.2 = val out0 + 4294967296 ^ i * (x.val * val (b.take q.1)) ∧ ∀ j, i + b.length ≤ j → dig q.2.1 j = 0, fun q => b.length - q.1, (0, out0, 0), ?_, ?_, ?_⟩
    · exact ⟨Nat.zero_le _, h2, by dsimp only; omega, by simp [val], h4⟩
    · exact sub_of [(0, some 0)] rfl rfl rfl ⟨rfl, rfl, rfl, rfl, rfl, rfl, rfl, rfl, rfl, rfl, rfl, trivial⟩ ⟨rfl, trivial⟩
    rintro ⟨k, out, c⟩ ⟨g1, g2, g3, g4, g5⟩
    dsimp only at g1 g2 g3 g4 g5
    refine Br.mk (fun g6 => ?_) (fun g6 => ?_)
    · refine Ob.mk (by omega) ?_
      intro y hy
      have hy : b[k]? = some y := hy
      have dy := dig_some hy
      have hyl := y.isLt
      have hm0 := mul_digs0 hxl hyl
      refine Ar.fit (by omega) ?_
      refine Ar.fit (by omega) ?_
      refine Ar.fit (by omega) ?_
      refine Ar.fit (by omega) ?_
      refine Ob.mk (by omega) ?_
      refine Ob.mk (by omega) ?_
      intro z hz
      rw [show ((i : Int) + k).toNat = i + k by omega] at hz
      have dz := dig_some hz
      have hzl := z.isLt
      refine Ar.fit (by omega) ?_
      refine Ar.fit (by omega) ?_
      refine Ar.fit (by omega) ?_
      refine Ar.fit (by omega) ?_
      refine Ar.wrap ?_
      refine Ob.mk (by omega) ?_
      refine Ob.mk (by omega) ?_
      intro z' hz'
      refine ⟨dof (x.val * y.val + z.val + c), congrArg (fun n => [u32 n]) (dofW (by omega)), ?_⟩
      refine Ob.mk (by decide) ?_
      refine Ar.fit (by omega) ?_
      refine ⟨(k + 1, out.set (i + k) (dof (x.val * y.val + z.val + c)), (x.val * y.val + z.val + c) / 4294967296), ⟨by dsimp only; omega, by simp [g2], by dsimp only; omega, ?_, ?_⟩,
        sub_of [(0, some 0)] rfl rfl rfl ⟨rfl, rfl, rfl, congrArg (fun n => some (u64 n)) (by simp only [Int.reducePow]; omega), rfl, rfl, rfl, rfl, rfl, rfl, rfl, trivial⟩ ⟨congrArg (fun n => some (dArr (out.set n _))) (by omega), trivial⟩, by dsimp only; omega⟩
      · dsimp only
        have hs := val_set out (i + k) (dof (x.val * y.val + z.val + c)) (by omega)
        rw [dof_val, dz] at hs
        rw [val_take_succ, dy, ← Nat.add_assoc i k 1, Nat.pow_succ]
        have e := Nat.div_add_mod (x.val * y.val + z.val + c) 4294967296
        rw [Nat.pow_add] at g4 hs ⊢
        exact mul_step g4 hs e
      · intro j hj
        dsimp only
        rw [dig_set, if_neg (by omega)]
        exact g5 j hj
    · have hk : k = b.length := by omega
      intro hl8
      refine Ar.fit (by omega) ?_
      refine Ar.wrap ?_
      refine Ob.mk (by omega) ?_
      refine Ob.mk (by omega) ?_
      intro z' hz'
      refine ⟨dof c, congrArg (fun n => [u32 n]) (dofW rfl), ?_⟩
      refine Ar.fit (by omega) ?_
      refine ⟨(i + 1, out.set (i + b.length) (dof c)), ⟨by dsimp only; omega, by simp [g2], ?_, ?_⟩,
        sub_of [(0, some 0)] rfl rfl rfl ⟨rfl, rfl, rfl, rfl, rfl, trivial⟩ ⟨congrArg (fun n => some (dArr (out.set n _))) (by omega), trivial⟩, by dsimp only; omega⟩
      · dsimp only
        have hs := val_set out (i + b.length) (dof c) (by omega)
        rw [dof_val, g5 _ (Nat.le_refl _), Nat.mod_eq_of_lt g3] at hs
        rw [hk, val_take_all (Nat.le_refl _), h3] at g4
        rw [val_take_succ, dx]
        generalize val (out.set (i + b.length) _) = r at *
        generalize 4294967296 ^ i = p at *
        generalize 4294967296 ^ (i + b.length) = q at *
        generalize val (a.take i) = w at *
        generalize x.val = x at *
        generalize val out = o at *
        clear h4 g5
        grind
      · intro j hj
        dsimp only
        rw [dig_set, if_neg (by omega)]
        exact g5 j (by omega)
  · have hi : i = a.length := by omega
    rw [hi, val_take_all (Nat.le_refl _)] at h3
    refine CallV.see 0 _ (n_shortS out0 (by omega)) rfl rfl rfl ?_
    rw [h3]
    exact .refl

theorem or_shift {x y : Nat} {e : Int} (hx : x < 4294967296) (hy : y < 4294967296) (he : e = (x : Int) * 2 ^ 32) : bitsK .or .u64 e y = ((x * 4294967296 + y : Nat) : Int) := by
  have h1 : e = ((x * 4294967296 : Nat) : Int) := by rw [he]; simp only [Int.reducePow]; omega
  rw [h1, or_nat (by omega) (by omega)]
  have := Nat.two_pow_add_eq_or_of_lt (i := 32) (b := y) (by rw [show 2 ^ 32 = 4294967296 by decide]; exact hy) x
  rw [show 2 ^ 32 = 4294967296 by decide, Nat.mul_comm] at this
  rw [← this]

set_option maxRecDepth 100000 in
theorem n_one (a : List Dig) (d : Nat) (ha : a.length ≤ 900000000) (hd : d < 4294967296) (h0 : d ≠ 0) :
    CallsG Tryz.prog 283 [.sl dgE a, u32 d] [] (.tup [.sl dgE (digs (val a / d)), u32 (val a % d : Nat)]) [] := by
  refine calls_to tok mix Tryz.func283 rfl rfl rfl ?_
  intro hl1
  refine ⟨Dig, dgE, 0, rfl, Ob.mk ⟨by decide, by omega, by omega, (by show _ * (4 : Int) ≤ _; omega), by omega⟩ ?_⟩
  intro hl2
  refine Ar.fit (by omega) ?_
  refine ⟨Nat × List Dig × Nat, fun ⟨j, out, r⟩ => ⟨[(8, i64 ((j : Int) - 1)), (7, u64 r), (6, .own 0), (0, .sl dgE a), (1, u32 d)], [(0, dArr out)], 1, 43, 0⟩,
    fun q => q.1 ≤ a.length ∧ q.2.1.length = a.length ∧ q.2.2 < d ∧ val (a.drop q.1) = d * val (q.2.1.drop q.1) + q.2.2, fun q => q.1, (a.length, List.replicate a.length 0, 0), ?_, ?_, ?_⟩
  · refine ⟨Nat.le_refl _, by simp, by dsimp only; omega, ?_⟩
    dsimp only
    rw [val_drop_out (Nat.le_refl _), val_drop_out (by simp), Nat.mul_zero]
  · exact sub_of [(0, some 0)] rfl rfl rfl ⟨rfl, rfl, rfl, rfl, rfl, trivial⟩ ⟨congrArg (fun n => some (dArr (List.replicate n 0))) (by omega), trivial⟩
  rintro ⟨j, out, r⟩ ⟨h1, h2, h3, h4⟩
  dsimp only at h1 h2 h3 h4
  refine Br.mk (fun h5 => ?_) (fun h5 => ?_)
  · refine Ob.mk (by decide) ?_
    refine Ar.fit (by simp only [Int.reducePow]; omega) ?_
    refine Ob.mk (by omega) ?_
    intro x hx
    rw [show ((j : Int) - 1).toNat = j - 1 by omega] at hx
    have dx := dig_some hx
    have hxl := x.isLt
    refine Ar.fit (by omega) ?_
    refine ⟨_, (or_shift (by omega) hxl rfl).symm, ?_⟩
    have hq : (r * 4294967296 + x.val) / d < 4294967296 := by
      rw [Nat.div_lt_iff_lt_mul (by omega)]
      have : r * 4294967296 + 4294967296 ≤ 4294967296 * d := by omega
      omega
    have hm : (r * 4294967296 + x.val) % d < d := Nat.mod_lt _ (by omega)
    have hdm := Nat.div_add_mod (r * 4294967296 + x.val) d
    refine Ar.fit (by omega) ?_
    refine Dv.pos ⟨by omega, by omega, by show _ ≤ (18446744073709551615 : Int); omega⟩ ?_
    have e1 : ((r * 4294967296 + x.val : Nat) : Int) / (d : Int) = (((r * 4294967296 + x.val) / d : Nat) : Int) := by simp
    have e2 : ((r * 4294967296 + x.val : Nat) : Int) % (d : Int) = (((r * 4294967296 + x.val) % d : Nat) : Int) := by simp
    rw [e1]
    generalize (r * 4294967296 + x.val) / d = qd at *
    refine Ar.fit (by omega) ?_
    refine Ob.mk (by omega) ?_
    refine Ob.mk (by omega) ?_
    intro z hz
    refine ⟨dof qd, congrArg (fun n => [u32 n]) (by rw [dof_val, Nat.mod_eq_of_lt hq]), ?_⟩
    refine Ar.fit (by omega) ?_
    refine Dv.pos ⟨by omega, by omega⟩ ?_
    rw [e2]
    generalize (r * 4294967296 + x.val) % d = rd at *
    refine Ar.fit (by omega) ?_
    refine ⟨(j - 1, out.set (j - 1) (dof qd), rd), ⟨by dsimp only; omega, by simp [h2], hm, ?_⟩,
      sub_of [(0, some 0)] rfl rfl rfl ⟨congrArg (fun n => some (i64 n)) (by omega), rfl, rfl, rfl, rfl, trivial⟩ ⟨congrArg (fun n => some (dArr (out.set n _))) (by omega), trivial⟩, by dsimp only; omega⟩
    dsimp only
    rw [val_drop_cons a, dx, show j - 1 + 1 = j by omega]
    refine div_step h4 (by omega) hdm ?_
    rw [drop_set_self (by omega), dof_val, Nat.mod_eq_of_lt hq, show j - 1 + 1 = j by omega]
  · have hj : j = 0 := by omega
    subst hj
    rw [List.drop_zero, List.drop_zero] at h4
    have e1 : val out = val a / d := by
      rw [h4, Nat.mul_add_div (by omega), Nat.div_eq_of_lt h3, Nat.add_zero]
    have e2 : r = val a % d := by
      rw [h4, Nat.mul_add_mod, Nat.mod_eq_of_lt h3]
    refine CallV.see 0 _ (n_shortS out (by omega)) rfl rfl rfl ?_
    refine Ar.fit (by omega) ?_
    rw [e1]
    exact LE_tup2 .refl (LE_int (by rw [e2]))

end Go.Gs
/- Natural numbers, the program's: Knuth's guess. -/
namespace Go.Gs
open Go.Proofs

/-- The guess, made smaller while it is too large. -/
def gloop (v1 v2 u2 top : Nat) : Nat → Nat → Nat
  | 0, q => q
  | f + 1, q => if 4294967296 ≤ q ∨ (top - q * v1) * 4294967296 + u2 < q * v2 then (if 4294967296 ≤ top - (q - 1) * v1 then q - 1 else gloop v1 v2 u2 top f (q - 1)) else q

theorem gloop_ok {P v1 v2 rv top u2 ru Q : Nat} (hrv : rv < P) (hru : ru < P) (hv1 : 2147483648 ≤ v1) (hv2 : v2 < 4294967296)
    (hQd : ((top * 4294967296 + u2) * P + ru) / ((v1 * 4294967296 + v2) * P + rv) = Q) (hQ : Q < 4294967296) : ∀ (f q : Nat), q < f → q ≤ 4294967297 → q * v1 ≤ top → Q ≤ q →
      gloop v1 v2 u2 top f q = Q ∨ gloop v1 v2 u2 top f q = Q + 1
  | 0, q, h, _, _, _ => by omega
  | f + 1, q, h, hq, hle, hge => by
    unfold gloop
    have hr : q * v1 + (top - q * v1) = top := by omega
    by_cases hc : 4294967296 ≤ q ∨ (top - q * v1) * 4294967296 + u2 < q * v2
    · rw [if_pos hc]
      have hlt : Q < q := by
        rcases hc with hc | hc
        · omega
        · rw [← hQd]; exact guess_big hru hr hc
      have hq1 : (q - 1) * v1 + v1 = q * v1 := by
        have : q = (q - 1) + 1 := by omega
        rw [this, Nat.add_mul]; simp
      by_cases hb : 4294967296 ≤ top - (q - 1) * v1
      · rw [if_pos hb]
        have h1 : (q - 1) * v2 ≤ 4294967296 * 4294967295 := Nat.mul_le_mul (by omega) (by omega)
        have := guess_ok hrv hru hv1 hv2 (q := q - 1) (r := top - (q - 1) * v1) (top := top) (u2 := u2) (by omega) (by omega) (by omega) (by rw [hQd]; omega)
        rwa [hQd] at this
      · rw [if_neg hb]
        exact gloop_ok hrv hru hv1 hv2 hQd hQ f (q - 1) (by omega) (by omega) (by omega) (by omega)
    · rw [if_neg hc]
      have := guess_ok hrv hru hv1 hv2 hr (u2 := u2) (by omega) (by omega) (by rw [hQd]; exact hge)
      rwa [hQd] at this

/-- What the guess is made of: the window's and the divisor's first digits. -/
def topOf (U V : List Dig) : Nat := dig U V.length * 4294967296 + dig U (V.length - 1)
def guessN (U V : List Dig) : Nat := gloop (dig V (V.length - 1)) (dig V (V.length - 2)) (dig U (V.length - 2)) (topOf U V) (topOf U V / dig V (V.length - 1) + 1) (topOf U V / dig V (V.length - 1))

theorem top_lt {U V : List Dig} (hU : U.length = V.length + 1) (hn : 2 ≤ V.length) (hlt : val U < 4294967296 * val V) : topOf U V < (dig V (V.length - 1) + 1) * 4294967296 := by
  obtain ⟨n, hn'⟩ : ∃ n, V.length = n + 1 := ⟨V.length - 1, by omega⟩
  have e1 := val_split U n
  have e2 := val_drop_cons U n
  have e3 := val_drop_cons U (n + 1)
  rw [val_drop_out (show U.length ≤ n + 1 + 1 by omega), Nat.mul_zero, Nat.add_zero] at e3
  have f1 := val_split V n
  have f2 := val_drop_cons V n
  rw [val_drop_out (show V.length ≤ n + 1 by omega), Nat.mul_zero, Nat.add_zero] at f2
  have f3 := val_take_lt V n
  unfold topOf
  rw [hn', Nat.add_sub_cancel]
  rw [e3] at e2
  rw [e2] at e1
  rw [f2] at f1
  have hp := pow_pos' n
  generalize 4294967296 ^ n = p at *
  generalize dig U n = a at *
  generalize dig U (n + 1) = b at *
  generalize dig V n = v at *
  have h1 : p * (a + 4294967296 * b) < p * (4294967296 * (v + 1)) := by
    have h2 : p * (4294967296 * (v + 1)) = 4294967296 * (p * v + p) := by
      rw [Nat.mul_left_comm, Nat.mul_add p v 1, Nat.mul_one]
    rw [h2]
    generalize p * (a + 4294967296 * b) = X at *
    generalize p * v = Y at *
    omega
  have := Nat.lt_of_mul_lt_mul_left h1
  omega

theorem guessN_ok {U V : List Dig} (hU : U.length = V.length + 1) (hn : 2 ≤ V.length) (hv : 2147483648 ≤ dig V (V.length - 1)) (hlt : val U < 4294967296 * val V) :
    (guessN U V = val U / val V ∨ guessN U V = val U / val V + 1) ∧ val U / val V ≤ topOf U V / dig V (V.length - 1) ∧ topOf U V / dig V (V.length - 1) ≤ 4294967297 := by
  have hest := est_ge (r := U) (b := V) (by omega) hlt
  have htop := top_lt hU hn hlt
  have hVp : 0 < val V := by
    rcases Nat.eq_zero_or_pos (val V) with h | h
    · rw [h] at hlt; omega
    · exact h
  have hQ : val U / val V < 4294967296 := (Nat.div_lt_iff_lt_mul hVp).2 hlt
  have hq1 : topOf U V / dig V (V.length - 1) ≤ 4294967297 := by
    have : topOf U V / dig V (V.length - 1) < 4294967298 := by
      rw [Nat.div_lt_iff_lt_mul (by omega)]; omega
    omega
  refine ⟨?_, hest, hq1⟩
  obtain ⟨n, hn'⟩ : ∃ n, V.length = n + 2 := ⟨V.length - 2, by omega⟩
  have e1 := val_split U n
  have e2 := val_drop_cons U n
  have e3 := val_drop_cons U (n + 1)
  have e4 := val_drop_cons U (n + 1 + 1)
  rw [val_drop_out (show U.length ≤ n + 1 + 1 + 1 by omega), Nat.mul_zero, Nat.add_zero] at e4
  have e5 := val_take_lt U n
  obtain ⟨rv, r1, r2⟩ := val_two_top V n hn'
  have eU : val U = (topOf U V * 4294967296 + dig U (V.length - 2)) * 4294967296 ^ n + val (U.take n) := by
    unfold topOf
    rw [hn', show n + 2 - 1 = n + 1 by omega, show n + 2 - 2 = n by omega, e1, e2, e3, e4]
    generalize 4294967296 ^ n = p
    grind
  have eV : val V = (dig V (V.length - 1) * 4294967296 + dig V (V.length - 2)) * 4294967296 ^ n + rv := by
    rw [hn', show n + 2 - 1 = n + 1 by omega, show n + 2 - 2 = n by omega]; exact r2
  have key := gloop_ok (P := 4294967296 ^ n) (v1 := dig V (V.length - 1)) (v2 := dig V (V.length - 2)) (top := topOf U V) (u2 := dig U (V.length - 2)) (Q := val U / val V) r1 e5 hv (dig_lt _ _) (by rw [← eU, ← eV]) hQ
    (topOf U V / dig V (V.length - 1) + 1) (topOf U V / dig V (V.length - 1)) (by omega) hq1 (Nat.div_mul_le_self _ _) hest
  exact key

set_option maxRecDepth 100000 in
set_option maxHeartbeats 1000000 in
theorem n_guess (U V : List Dig) (hl : V.length ≤ 900000000) (hU : U.length = V.length + 1) (hn : 2 ≤ V.length) (hv : 2147483648 ≤ dig V (V.length - 1)) (hlt : val U < 4294967296 * val V) :
    CallsG Tryz.prog 285 [.sl dgE U, .sl dgE V] [] (u64 (guessN U V : Nat)) [] := by
  obtain ⟨_, hQ, hq⟩ := guessN_ok hU hn hv hlt
  have hG : guessN U V = gloop (dig V (V.length - 1)) (dig V (V.length - 2)) (dig U (V.length - 2)) (topOf U V) (topOf U V / dig V (V.length - 1) + 1) (topOf U V / dig V (V.length - 1)) := rfl
  refine calls_to tok mix Tryz.func285 rfl rfl rfl ?_
  intro hl1
  refine Dr.mk (by decide +kernel) ?_
  refine Ob.mk (by omega) ?_
  intro x hx
  have hx : U[V.length]? = some x := hx
  have dx := dig_some hx
  have hxl := x.isLt
  refine Ar.fit (by omega) ?_
  refine Ob.mk (by decide) ?_
  refine Ar.fit (by simp only [Int.reducePow]; omega) ?_
  refine Ar.fit (by omega) ?_
  refine Ob.mk (by omega) ?_
  intro y hy
  rw [show ((V.length : Int) - 1).toNat = V.length - 1 by omega] at hy
  have dy := dig_some hy
  have hyl := y.isLt
  refine Ar.fit (by omega) ?_
  refine ⟨_, (or_shift hxl hyl rfl).symm, ?_⟩
  have ht : topOf U V = x.val * 4294967296 + y.val := by unfold topOf; rw [dx, dy]
  rw [← ht]
  have ht2 : topOf U V < 18446744073709551616 := by omega
  generalize topOf U V = T at *
  refine Dr.mk (by decide +kernel) ?_
  refine Ar.fit (by omega) ?_
  refine Ob.mk (by omega) ?_
  intro v1 hv1
  rw [show ((V.length : Int) - 1).toNat = V.length - 1 by omega] at hv1
  have d1 := dig_some hv1
  have h1l := v1.isLt
  rw [d1] at hv hQ hq hG
  refine Ar.fit (by omega) ?_
  refine Dv.pos ⟨by omega, by omega, by show _ ≤ (18446744073709551615 : Int); omega⟩ ?_
  refine Ar.fit (by omega) ?_
  refine Ob.mk (by omega) ?_
  intro v1' hv1'
  rw [show ((V.length : Int) - 1).toNat = V.length - 1 by omega, hv1] at hv1'
  cases hv1'
  refine Ar.fit (by omega) ?_
  refine Dv.pos ⟨by omega, by omega⟩ ?_
  have hdm := Nat.div_add_mod T v1.val
  have hml : T % v1.val < v1.val := Nat.mod_lt _ (by omega)
  refine ⟨Nat × Nat × Nat, fun ⟨f, q, r⟩ => ⟨[(7, u64 q), (8, u64 r), (0, .sl dgE U), (1, .sl dgE V), (5, i64 V.length)], [], 0, 77, 0⟩,
    fun s => s.2.1 < s.1 ∧ s.2.1 ≤ 4294967297 ∧ s.2.2 < 4294967296 ∧ s.2.1 * v1.val + s.2.2 = T ∧ guessN U V = gloop v1.val (dig V (V.length - 2)) (dig U (V.length - 2)) T s.1 s.2.1, fun s => s.1,
    (T / v1.val + 1, T / v1.val, T % v1.val), ?_, ?_, ?_⟩
  · exact ⟨by dsimp only; omega, hq, by dsimp only; omega, by dsimp only; rw [Nat.mul_comm]; exact hdm, hG⟩
  · exact sub_of [] rfl rfl rfl ⟨congrArg (fun n => some (u64 n)) (by simp), congrArg (fun n => some (u64 n)) (by simp), rfl, rfl, rfl, trivial⟩ trivial
  clear hG hQ hq hdm hml ht
  rintro ⟨f, q, r⟩ ⟨g1, g2, g3, g4, g5⟩
  dsimp only at g1 g2 g3 g4 g5
  obtain ⟨f', rfl⟩ : ∃ f', f = f' + 1 := ⟨f - 1, by omega⟩
  unfold gloop at g5
  have er : T - q * v1.val = r := by omega
  rw [er] at g5
  have dec : 1 ≤ q → (q - 1) * v1.val + v1.val = q * v1.val := fun h => by
    have : q = (q - 1) + 1 := by omega
    rw [this, Nat.add_mul]; simp
  refine Dr.mk (by decide +kernel) ?_
  refine Ob.mk (by decide) ?_
  refine Br.mk (fun k1 => ?_) (fun k1 => ?_)
  · have k1 : 4294967296 ≤ q := by simp only [Int.reducePow] at k1; omega
    rw [if_pos (.inl k1)] at g5
    have hd := dec (by omega)
    have er2 : T - (q - 1) * v1.val = r + v1.val := by omega
    rw [er2] at g5
    refine Ar.fit (by omega) ?_
    refine Ar.fit (by omega) ?_
    refine Ob.mk (by omega) ?_
    intro z hz
    rw [show ((V.length : Int) - 1).toNat = V.length - 1 by omega, hv1] at hz
    cases hz
    refine Ar.fit (by omega) ?_
    refine Ar.fit (by omega) ?_
    refine Ob.mk (by decide) ?_
    refine Br.mk (fun k3 => ?_) (fun k3 => ?_)
    · rw [if_pos (by simp only [Int.reducePow] at k3; omega)] at g5
      exact LE_int (by omega)
    · rw [if_neg (by simp only [Int.reducePow] at k3; omega)] at g5
      exact ⟨(f', q - 1, r + v1.val), ⟨by dsimp only; omega, by dsimp only; omega, by dsimp only; simp only [Int.reducePow] at k3; omega, by dsimp only; omega, g5⟩,
        sub_of [] rfl rfl rfl ⟨congrArg (fun n => some (u64 n)) (by omega), rfl, rfl, rfl, rfl, trivial⟩ trivial, by dsimp only; omega⟩
  · have k1 : q < 4294967296 := by simp only [Int.reducePow] at k1; omega
    refine Ar.fit (by omega) ?_
    refine Ob.mk (by omega) ?_
    intro v2 hv2
    rw [show ((V.length : Int) - 2).toNat = V.length - 2 by omega] at hv2
    have d2 := dig_some hv2
    have h2l := v2.isLt
    have hm := mul_digs0 k1 h2l
    refine Ar.fit (by omega) ?_
    refine Ar.fit (by omega) ?_
    refine Ob.mk (by decide) ?_
    refine Ar.fit (by simp only [Int.reducePow]; omega) ?_
    refine Ar.fit (by omega) ?_
    refine Ob.mk (by omega) ?_
    intro w hw
    rw [show ((V.length : Int) - 2).toNat = V.length - 2 by omega] at hw
    have dw := dig_some hw
    have hwl := w.isLt
    refine Ar.fit (by omega) ?_
    refine ⟨_, (or_shift g3 hwl rfl).symm, ?_⟩
    rw [d2, dw] at g5
    refine Br.mk (fun k2 => ?_) (fun k2 => ?_)
    · have k2 : r * 4294967296 + w.val < q * v2.val := by
        rw [← Int.natCast_mul] at k2; omega
      have hq0 : 1 ≤ q := by
        rcases Nat.eq_zero_or_pos q with h | h
        · subst h; omega
        · exact h
      rw [if_pos (.inr k2)] at g5
      have hd := dec hq0
      have er2 : T - (q - 1) * v1.val = r + v1.val := by omega
      rw [er2] at g5
      rw [← d2, ← dw] at g5
      refine Ar.fit (by omega) ?_
      refine Ar.fit (by omega) ?_
      refine Ob.mk (by omega) ?_
      intro z hz
      rw [show ((V.length : Int) - 1).toNat = V.length - 1 by omega, hv1] at hz
      cases hz
      refine Ar.fit (by omega) ?_
      refine Ar.fit (by omega) ?_
      refine Ob.mk (by decide) ?_
      refine Br.mk (fun k3 => ?_) (fun k3 => ?_)
      · rw [if_pos (by simp only [Int.reducePow] at k3; omega)] at g5
        exact LE_int (by omega)
      · rw [if_neg (by simp only [Int.reducePow] at k3; omega)] at g5
        exact ⟨(f', q - 1, r + v1.val), ⟨by dsimp only; omega, by dsimp only; omega, by dsimp only; simp only [Int.reducePow] at k3; omega, by dsimp only; omega, g5⟩,
          sub_of [] rfl rfl rfl ⟨congrArg (fun n => some (u64 n)) (by omega), rfl, rfl, rfl, rfl, trivial⟩ trivial, by dsimp only; omega⟩
    · have k2 : ¬ (4294967296 ≤ q ∨ r * 4294967296 + w.val < q * v2.val) := by
        rw [← Int.natCast_mul] at k2; omega
      rw [if_neg k2] at g5
      exact LE_int (by rw [g5])

end Go.Gs
/- Natural numbers, the program's: a multiple taken off a part of a row. -/
namespace Go.Gs
open Go.Proofs

/-- As many digits of a number. -/
def padDigs (k n : Nat) : List Dig := (List.range k).map fun i => dof (n / 4294967296 ^ i)
theorem padDigs_len (k n : Nat) : (padDigs k n).length = k := by simp [padDigs]
theorem list_dig {xs ys : List Dig} (hl : xs.length = ys.length) (h : ∀ i, i < xs.length → dig xs i = dig ys i) : xs = ys := by
  refine List.ext_getElem hl fun i h1 h2 => Fin.ext ?_
  have := h i h1
  rwa [dig_some (List.getElem?_eq_getElem h1), dig_some (List.getElem?_eq_getElem h2)] at this
theorem pad_val (w : List Dig) : padDigs w.length (val w) = w := by
  refine list_dig (padDigs_len _ _) fun i hi => ?_
  rw [padDigs_len] at hi
  rw [dig_val w i]
  have : (padDigs w.length (val w))[i]? = some (dof (val w / 4294967296 ^ i)) := by simp [padDigs, hi]
  rw [dig_some this, dof_val]
theorem val_pad {k n : Nat} (h : n < 4294967296 ^ k) : val (padDigs k n) = n := by
  have := val_of_digs (xs := padDigs k n) (N := n) (fun j hj => by
    rw [padDigs_len] at hj
    have e : (padDigs k n)[j]? = some (dof (n / 4294967296 ^ j)) := by simp [padDigs, hj]
    rw [dig_some e, dof_val])
  rw [padDigs_len, Nat.mod_eq_of_lt h] at this
  exact this

theorem get_mid {pre w post : List Dig} {i : Nat} (h : i < w.length) : (pre ++ (w ++ post))[pre.length + i]? = w[i]? := by
  rw [List.getElem?_append_right (by omega), Nat.add_sub_cancel_left, List.getElem?_append_left h]
theorem set_mid {pre w post : List Dig} {i : Nat} {d : Dig} (h : i < w.length) : (pre ++ (w ++ post)).set (pre.length + i) d = pre ++ (w.set i d ++ post) := by
  rw [List.set_append_right _ _ (by omega), Nat.add_sub_cancel_left, List.set_append_left _ _ h]

/-- What is left of a part when a multiple is taken off; it may be negative. -/
def takeW (W V : List Dig) (q : Nat) : List Dig := padDigs W.length (if val W < q * val V then val W + 4294967296 ^ W.length - q * val V else val W - q * val V)

theorem and32' {x : Nat} {e : Int} (h : e = x) : bitsK .and .u64 e 4294967295 = ((x % 4294967296 : Nat) : Int) := by rw [h]; exact and32 x

theorem take_digit {u lo b : Nat} (hu : u < 4294967296) (hl : lo < 4294967296) (hb : b ≤ 1) :
    ((dof (8589934592 + u - lo - b)).val : Int) = IntKind.u32.wrap (IntKind.u64.wrap (IntKind.u64.wrap ((u : Int) - lo) - b)) ∧
    IntKind.u64.wrap (IntKind.u64.wrap ((u : Int) - lo) - b) / 2 ^ 63 = (((if u < lo + b then 1 else 0 : Nat)) : Int) ∧
    (8589934592 + u - lo - b) % 4294967296 + lo + b = u + 4294967296 * (if u < lo + b then 1 else 0) := by
  rw [wrap32, wrap64, wrap64, dof_val]
  simp only [Int.reducePow]
  refine ⟨by omega, ?_, ?_⟩
  · split <;> omega
  · split <;> omega

set_option maxRecDepth 100000 in
set_option maxHeartbeats 1000000 in
theorem n_take (pre W post V : List Dig) (q : Nat) (hW : W.length = V.length + 1) (hq : q ≤ 4294967296) :
    CallsG Tryz.prog 286 [.win 0 1 (pre.length : Int) (W.length : Int), .sl dgE V, u64 q] [(0, dArr (pre ++ (W ++ post)))] (pr (val W < q * val V)) [(0, dArr (pre ++ (takeW W V q ++ post)))] := by
  refine calls_mut tok mix Tryz.func286 rfl rfl rfl (dArr_flat _) rfl ?_
  intro hl0
  refine ⟨Nat × List Dig × Nat × Nat, fun ⟨i, w, c, b⟩ => ⟨[(15, i64 i), (14, i64 V.length), (13, .sl dgE V), (7, u64 c), (8, u64 b), (0, .win 0 1 (pre.length : Int) (W.length : Int)), (1, .sl dgE V), (2, u64 q)], [(0, dArr (pre ++ (w ++ post)))], 1, 65, 1⟩,
    fun s => s.1 ≤ V.length ∧ s.2.1.length = W.length ∧ s.2.2.1 < 4294967296 ∧ s.2.2.2 ≤ 1 ∧ (∀ j, s.1 ≤ j → dig s.2.1 j = dig W j) ∧ val (s.2.1.take s.1) + q * val (V.take s.1) = val (W.take s.1) + 4294967296 ^ s.1 * (s.2.2.1 + s.2.2.2),
    fun s => V.length - s.1, (0, W, 0, 0), ?_, ?_, ?_⟩
  · exact ⟨Nat.zero_le _, rfl, by dsimp only; omega, Nat.zero_le _, fun _ _ => rfl, by simp [val]⟩
  · exact sub_of [(0, some 0)] rfl rfl rfl ⟨rfl, rfl, rfl, rfl, rfl, rfl, rfl, rfl, trivial⟩ ⟨rfl, trivial⟩
  rintro ⟨i, w, c, b⟩ ⟨h1, h2, h3, h4, h5, h6⟩
  dsimp only at h1 h2 h3 h4 h5 h6
  have hll : (pre ++ (w ++ post)).length = pre.length + W.length + post.length := by simp [h2]; omega
  refine Br.mk (fun k1 => ?_) (fun k1 => ?_)
  · refine Ob.mk (by omega) ?_
    intro y hy
    have hy : V[i]? = some y := hy
    have dy := dig_some hy
    have hyl := y.isLt
    have hm : q * y.val ≤ 4294967296 * 4294967295 := Nat.mul_le_mul hq (by omega)
    refine Ar.fit (by omega) ?_
    refine Ar.fit (by rw [← Int.natCast_mul]; omega) ?_
    refine Ar.fit (by rw [← Int.natCast_mul]; omega) ?_
    refine Ob.mk ⟨by omega, by omega, by omega⟩ ?_
    refine Ob.mk (by rw [hll]; omega) ?_
    intro u hu
    have hu : w[i]? = some u := by rw [← get_mid (pre := pre) (post := post) (by omega), ← hu]; congr 1
    have du := dig_some hu
    have hul := u.isLt
    refine Ar.fit (by omega) ?_
    have ex : (c : Int) + (q : Int) * (y.val : Int) = ((c + q * y.val : Nat) : Int) := by simp
    refine ⟨_, (and32' ex).symm, ?_⟩
    rw [ex]
    generalize hX : c + q * y.val = X at *
    obtain ⟨t1, t2, t3⟩ := take_digit (u := u.val) (lo := X % 4294967296) (b := b) hul (Nat.mod_lt _ (by decide)) h4
    refine Ar.wrap ?_
    refine Ar.wrap ?_
    refine Ar.wrap ?_
    refine Ob.mk ⟨by omega, by omega, by omega⟩ ?_
    refine Ob.mk (by rw [hll]; omega) ?_
    intro z hz
    refine ⟨dof (8589934592 + u.val - X % 4294967296 - b), congrArg (fun n => [u32 n]) t1, ?_⟩
    refine Ob.mk (by decide) ?_
    refine Ob.mk (by decide) ?_
    refine Ar.fit (by omega) ?_
    generalize (if u.val < X % 4294967296 + b then 1 else 0) = b' at *
    have hb' : b' ≤ 1 := by omega
    refine ⟨(i + 1, w.set i (dof (8589934592 + u.val - X % 4294967296 - b)), X / 4294967296, b'), ⟨by dsimp only; omega, by simp [h2], by dsimp only; omega, hb', fun j hj => ?_, ?_⟩,
      sub_of [(0, some 0)] rfl rfl rfl ⟨rfl, rfl, rfl, congrArg (fun n => some (u64 n)) (by simp only [Int.reducePow]; omega), congrArg (fun n => some (u64 n)) t2, rfl, rfl, rfl, trivial⟩
        ⟨congrArg (fun l => some (dArr l)) (by rw [← set_mid (by omega)]; congr 1), trivial⟩, by dsimp only; omega⟩
    · dsimp only at hj ⊢
      rw [dig_set, if_neg (by omega)]; exact h5 j (by omega)
    · dsimp only
      rw [val_take_succ, val_take_succ, val_take_succ, Nat.pow_succ, dy, dig_set, if_pos ⟨rfl, by omega⟩, dof_val, ← h5 i (Nat.le_refl _), du]
      have ht : (w.set i (dof (8589934592 + u.val - X % 4294967296 - b))).take i = w.take i := by rw [List.take_set_of_le (by omega)]
      rw [ht]
      have hd := Nat.div_add_mod X 4294967296
      exact take_step h6 (by omega) t3
  · have hi : i = V.length := by omega
    subst hi
    intro hl9
    refine Ob.mk ⟨by omega, by omega, by omega⟩ ?_
    refine Ob.mk (by rw [hll]; omega) ?_
    intro u hu
    have hu : w[V.length]? = some u := by rw [← get_mid (pre := pre) (post := post) (by omega), ← hu]; congr 1
    have du := dig_some hu
    have hul := u.isLt
    refine Ar.fit (by omega) ?_
    obtain ⟨t1, t2, t3⟩ := take_digit (u := u.val) (lo := c) (b := b) hul h3 h4
    refine Ar.wrap ?_
    refine Ar.wrap ?_
    intro hl10
    refine Ar.wrap ?_
    refine Ob.mk ⟨by omega, by omega, by omega⟩ ?_
    refine Ob.mk (by rw [hll]; omega) ?_
    intro z hz
    refine ⟨dof (8589934592 + u.val - c - b), congrArg (fun n => [u32 n]) t1, ?_⟩
    refine Ob.mk (by decide) ?_
    have ev : val (w.set V.length (dof (8589934592 + u.val - c - b))) + q * val V = val W + 4294967296 ^ W.length * (if u.val < c + b then 1 else 0) := by
      have e1 := val_set w V.length (dof (8589934592 + u.val - c - b)) (by omega)
      have e2 := val_split w V.length
      have e3 := val_drop_cons w V.length
      rw [val_drop_out (show w.length ≤ V.length + 1 by omega), Nat.mul_zero, Nat.add_zero] at e3
      rw [e3] at e2
      have f2 := val_split W V.length
      have f3 := val_drop_cons W V.length
      rw [val_drop_out (show W.length ≤ V.length + 1 by omega), Nat.mul_zero, Nat.add_zero] at f3
      rw [f3] at f2
      rw [val_take_all (Nat.le_refl V.length)] at h6
      rw [hW, Nat.pow_succ, f2, ← h5 _ (Nat.le_refl _), du]
      rw [du] at e1 e2
      rw [dof_val] at e1
      generalize (if u.val < c + b then 1 else 0) = b' at *
      generalize (8589934592 + u.val - c - b) % 4294967296 = u' at *
      generalize 4294967296 ^ V.length = p at *
      have e4 : p * (u' + c + b) = p * (u.val + 4294967296 * b') := by rw [t3]
      generalize u.val = u at *
      generalize val (w.take V.length) = wt at *
      generalize val (W.take V.length) = Wt at *
      generalize q * val V = qv at *
      clear h5 t1 t2
      grind
    have hvl := val_lt (w.set V.length (dof (8589934592 + u.val - c - b)))
    rw [List.length_set, h2] at hvl
    have hneg : (u.val < c + b) ↔ val W < q * val V := by
      constructor
      · intro h
        rw [if_pos h] at ev
        omega
      · intro h
        by_cases hh : u.val < c + b
        · exact hh
        · rw [if_neg hh] at ev
          omega
    have hfin : w.set V.length (dof (8589934592 + u.val - c - b)) = takeW W V q := by
      rw [← pad_val (w.set V.length (dof (8589934592 + u.val - c - b)))]
      unfold takeW
      rw [List.length_set, h2]
      congr 1
      by_cases hh : val W < q * val V
      · rw [if_pos hh]
        rw [if_pos (hneg.2 hh)] at ev
        omega
      · rw [if_neg hh]
        rw [if_neg (fun h => hh (hneg.1 h))] at ev
        omega
    refine ⟨congrArg (fun l => some (dArr l)) ?_, LE_pr ?_⟩
    · rw [← hfin, ← set_mid (by omega)]; congr 1
    · rw [t2, ← hneg]
      by_cases hh : u.val < c + b
      · simp [hh]
      · simp [hh]

end Go.Gs
