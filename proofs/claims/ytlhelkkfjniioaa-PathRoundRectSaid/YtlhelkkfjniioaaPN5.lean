/- Natural numbers, the other text: quotient and remainder. -/
import Derived.Test.YtlhelkkfjniioaaPN4
namespace Go.Gs
open Go.Proofs

theorem div_step {u q V d l w B qd rr nx : Nat} (h : w = V * qd + rr) (hn : nx = u + B * rr) (hd : V * d + l = nx) (hq : q = d + B * qd) : u + B * w = V * q + l := by
  subst h; subst hq; grind

theorem drop_set_self {xs : List Dig} {i : Nat} {d : Dig} (h : i < xs.length) : val ((xs.set i d).drop i) = d.val + 4294967296 * val (xs.drop (i + 1)) := by
  rw [val_drop_cons, dig_set, if_pos ⟨rfl, h⟩, List.drop_set_of_lt (by omega)]

set_option maxRecDepth 100000 in
set_option maxHeartbeats 1000000 in
theorem r1_divmod (a b : List Dig) (ha : a.length ≤ 400000000) (hb : b.length ≤ 400000000) (hb0 : val b ≠ 0) :
    CallsG Try.prog 122 [.sl dgE a, .sl dgE b] [] (.tup [.sl dgE (digs (val a / val b)), .sl dgE (digs (val a % val b)), i64 0]) [] := by
  refine calls_to tok mix Try.func122 rfl rfl rfl ?_
  refine CallV.to _ (r1_normalizeP _ (by omega)) rfl ?_
  intro hl
  have hlen := digs_val_len b
  refine Br.mk (fun h => ?_) (fun h => ?_)
  · have : digs (val b) = [] := List.length_eq_zero_iff.1 (by omega)
    exact absurd (digs_nil.1 this) hb0
  have hne : digs (val b) ≠ [] := fun e => hb0 (digs_nil.1 e)
  have hnorm := (normd_digs (val b)).resolve_left hne
  have htop := nbits_top hnorm
  rw [val_digs] at htop
  have hbits := nbits_val_le (digs (val b))
  rw [val_digs] at hbits
  have hpos := nbits_pos.2 hb0
  have hnt : 0 < nbits (dig (digs (val b)) ((digs (val b)).length - 1)) := nbits_pos.2 hnorm
  intro hl2
  refine Ar.fit (by omega) ?_
  refine CallV.to _ (r1_bitlen _ (by omega)) rfl ?_
  rw [val_digs]
  refine Ar.fit (by omega) ?_
  obtain ⟨s, hs⟩ : ∃ s : Nat, (32 * ((digs (val b)).length : Int) - (nbits (val b) : Int)) = s := ⟨32 * (digs (val b)).length - nbits (val b), by omega⟩
  rw [hs]
  have hs32 : s < 32 := by omega
  refine CallV.to _ (r1_shlP a s (by omega) (by omega)) rfl ?_
  refine CallV.to _ (r1_shlP (digs (val b)) s (by omega) (by omega)) rfl ?_
  rw [val_digs]
  have hpow : 2 ^ s ≤ 4294967296 ^ 1 := by rw [pow32]; exact Nat.pow_le_pow_right (by decide) (by omega)
  have hpow0 : 0 < 2 ^ s := Nat.pow_pos (by decide)
  have hUl : (digs (val a * 2 ^ s)).length ≤ a.length + 1 := digs_len (by
    rw [Nat.pow_add]
    exact Nat.lt_of_lt_of_le (Nat.mul_lt_mul_of_pos_right (val_lt a) hpow0) (Nat.mul_le_mul_left _ hpow))
  have hVl : (digs (val b * 2 ^ s)).length ≤ b.length + 1 := digs_len (by
    rw [Nat.pow_add]
    exact Nat.lt_of_lt_of_le (Nat.mul_lt_mul_of_pos_right (val_lt b) hpow0) (Nat.mul_le_mul_left _ hpow))
  have hV0 : val b * 2 ^ s ≠ 0 := Nat.mul_ne_zero hb0 (by omega)
  have eq1 : val a / val b = val a * 2 ^ s / (val b * 2 ^ s) := (Nat.mul_div_mul_right _ _ hpow0).symm
  have eq2 : val a % val b = val a * 2 ^ s % (val b * 2 ^ s) / 2 ^ s := by rw [Nat.mul_mod_mul_right, Nat.mul_div_cancel _ hpow0]
  rw [eq1, eq2]
  clear eq1 eq2 hpow hnt hnorm htop hpos hbits
  generalize val a * 2 ^ s = U at *
  generalize val b * 2 ^ s = V at *
  have hvn := (normd_digs V).resolve_left fun e => hV0 (digs_nil.1 e)
  intro hl3
  refine ⟨Dig, dgE, 0, rfl, Ob.mk ⟨by decide, by omega, by omega, (by show _ * (4 : Int) ≤ _; omega), by omega⟩ ?_⟩
  refine ⟨Dig, dgE, [], rfl, Ob.mk dNone ?_⟩
  intro hl4
  refine Ar.fit (by omega) ?_
  refine ⟨Nat × List Dig × List Dig, fun ⟨j, q, r⟩ => ⟨[(13, i64 ((j : Int) - 1)), (12, .own 1), (11, .own 0), (9, .sl dgE (digs U)), (10, .sl dgE (digs V)), (8, i64 s)], [(1, dArr r), (0, dArr q)], 2, 83, 0⟩,
    fun x => x.1 ≤ (digs U).length ∧ x.2.1.length = (digs U).length ∧ x.2.2.length ≤ (digs V).length ∧ val ((digs U).drop x.1) = V * val (x.2.1.drop x.1) + val x.2.2 ∧ val x.2.2 < V, fun x => x.1,
    ((digs U).length, List.replicate (digs U).length 0, []), ?_, ?_, ?_⟩
  · refine ⟨Nat.le_refl _, by simp, by simp, ?_, by dsimp only; rw [val_nil]; omega⟩
    dsimp only
    rw [val_drop_out (Nat.le_refl _), val_drop_out (by simp), val_nil, Nat.mul_zero]
  · exact sub_of [(0, some 0), (1, some 1)] rfl rfl rfl ⟨rfl, rfl, rfl, rfl, rfl, rfl, trivial⟩ ⟨rfl, congrArg (fun n => some (dArr (List.replicate n 0))) (by omega), trivial⟩
  rintro ⟨j, q, r⟩ ⟨g1, g2, g3, g4, g5⟩
  dsimp only at g1 g2 g3 g4 g5
  refine Br.mk (fun k1 => ?_) (fun k1 => ?_)
  · refine Ob.mk (by omega) ?_
    intro x hx
    rw [show ((j : Int) - 1).toNat = j - 1 by omega] at hx
    have dx := dig_some hx
    have hxl := x.isLt
    refine ⟨Dig, dgE, [x], rfl, Ob.mk (dOne x) ?_⟩
    refine ⟨Nat, fun k => ⟨[(15, i64 k), (14, .own 2), (13, i64 ((j : Int) - 1)), (12, .own 1), (11, .own 0), (9, .sl dgE (digs U)), (10, .sl dgE (digs V)), (8, i64 s)], [(2, dArr (x :: r.take k)), (1, dArr r), (0, dArr q)], 3, 83, 0⟩,
      fun k => k ≤ r.length, fun k => r.length - k, 0, ?_, ?_, ?_⟩
    · exact Nat.zero_le _
    · exact sub_of [(0, some 0), (1, some 1), (2, some 2)] rfl rfl rfl ⟨rfl, rfl, rfl, rfl, rfl, rfl, rfl, rfl, trivial⟩ ⟨rfl, rfl, rfl, trivial⟩
    intro k hk
    have hk : k ≤ r.length := hk
    intro hl5
    refine Br.mk (fun k2 => ?_) (fun k2 => ?_)
    · refine Ob.mk (by omega) ?_
      refine Ob.mk (by omega) ?_
      intro y hy
      have hy : r[k]? = some y := hy
      refine ⟨Dig, dgE, [y], rfl, Ob.mk (dOne y) ?_⟩
      refine ⟨_, rfl, Ob.mk (dApp (by simp; omega)) ?_⟩
      refine Ar.fit (by omega) ?_
      refine ⟨k + 1, by show k + 1 ≤ r.length; omega, sub_of [(0, some 0), (1, some 1), (2, some 4)] rfl rfl rfl ⟨rfl, rfl, rfl, rfl, rfl, rfl, rfl, rfl, trivial⟩
        ⟨congrArg (fun l => some (dArr l)) (by rw [List.take_add_one, hy]; rfl), rfl, rfl, trivial⟩, by dsimp only; omega⟩
    · have hkr : k = r.length := by omega
      subst hkr
      have hnx : val (x :: r) < 4294967296 * V := by rw [val_cons]; omega
      have hnl : (digs (val (x :: r))).length ≤ r.length + 1 := digs_val_len (x :: r)
      refine CallV.fresh _ _ (r1_normalize _ (by simp; omega)) rfl (dArr_flat _) (.inr (dArr_scalar _)) ?_
      rw [List.take_length]
      refine CallV.fresh _ _ (r1_often _ (digs V) (by omega) (by omega) hvn (by rw [val_digs, val_digs]; exact hnx)) rfl (dArr_flat _) (.inr (dArr_scalar _)) ?_
      rw [val_digs, val_digs]
      have hdl : val (x :: r) / V < 4294967296 := by rw [Nat.div_lt_iff_lt_mul (by omega)]; exact hnx
      have hml : val (x :: r) % V < V := Nat.mod_lt _ (by omega)
      have hdm := Nat.div_add_mod (val (x :: r)) V
      generalize val (x :: r) / V = dq at *
      generalize hmd : val (x :: r) % V = md at *
      refine Ar.fit (by omega) ?_
      refine Ob.mk (by omega) ?_
      refine Ob.mk (by omega) ?_
      intro z hz
      refine ⟨dof dq, congrArg (fun n => [u32 n]) (by rw [dof_val, Nat.mod_eq_of_lt hdl]), ?_⟩
      refine Ar.fit (by omega) ?_
      refine ⟨(j - 1, q.set (j - 1) (dof dq), digs md), ⟨by dsimp only; omega, by simp [g2], digs_mono (Nat.le_of_lt hml), ?_, by dsimp only; rw [val_digs]; exact hml⟩,
        sub_of [(0, some 0), (1, some 4)] rfl rfl rfl ⟨congrArg (fun n => some (i64 n)) (by omega), rfl, rfl, rfl, rfl, rfl, trivial⟩ ⟨rfl, congrArg (fun n => some (dArr (q.set n _))) (by omega), trivial⟩, by dsimp only; omega⟩
      dsimp only
      rw [val_digs, val_drop_cons (digs U), dx, show j - 1 + 1 = j by omega]
      refine div_step g4 (val_cons x r) hdm ?_
      rw [drop_set_self (by omega), dof_val, Nat.mod_eq_of_lt hdl, show j - 1 + 1 = j by omega]
  · have hj : j = 0 := by omega
    subst hj
    rw [List.drop_zero, List.drop_zero, val_digs] at g4
    refine CallV.fresh _ _ (r1_normalize _ (by omega)) rfl (dArr_flat _) (.inr (dArr_scalar _)) ?_
    refine Ar.fit (by omega) ?_
    refine CallV.fresh _ _ (r1_shr r s (by omega) (by omega)) rfl (dArr_flat _) (.inr (dArr_scalar _)) ?_
    have e1 : val q = U / V := by
      rw [g4, Nat.mul_add_div (by omega), Nat.div_eq_of_lt g5, Nat.add_zero]
    have e2 : val r = U % V := by
      rw [g4, Nat.mul_add_mod, Nat.mod_eq_of_lt g5]
    exact LE_tup (.cons (LE_sl (by rw [e1])) (.cons (LE_sl (by rw [e2])) (.cons .refl .nil)))

end Go.Gs
