/- Natural numbers, the other text: differences, products, shifts. -/
import Derived.Test.YtlhelkkfjniioaaPN1
namespace Go.Gs
open Go.Proofs

theorem r1_normalizeP (a : List Dig) (ha : a.length ≤ 1000000000) : CallsG Try.prog 118 [.sl dgE a] [] (.sl dgE (digs (val a))) [] :=
  (r1_normalize a ha).plain rfl
theorem r1_addP (a b : List Dig) (ha : a.length ≤ 900000000) (hb : b.length ≤ 900000000) :
    CallsG Try.prog 123 [.sl dgE a, .sl dgE b] [] (.sl dgE (digs (val a + val b))) [] := (r1_add a b ha hb).plain rfl

set_option maxRecDepth 100000 in
theorem r1_sub (a b : List Dig) (ha : a.length ≤ 900000000) (hb : b.length ≤ 900000000) :
    CallsG Try.prog 160 [.sl dgE a, .sl dgE b] [] (.tup [.own 0, pr (val b ≤ val a)]) [(0, dArr (digs (val a - val b)))] := by
  refine calls_own tok mix Try.func160 rfl rfl rfl ?_
  refine CallV.to _ (r1_cmp a b (by omega) (by omega)) rfl ?_
  refine Br.mk (fun h => ?_) (fun h => ?_)
  · have hlt : val a < val b := cmpN_lt.1 h
    refine ⟨none, take_tup (.cons (.nil rfl) (.cons (.le _ _ (LE_false (by omega)) rfl) .nil)), ?_⟩
    show digs (val a - val b) = []
    rw [Nat.sub_eq_zero_of_le (by omega)]; exact digs_zero
  have hle : val b ≤ val a := Nat.le_of_not_lt fun h' => h (cmpN_lt.2 h')
  refine ⟨Dig, dgE, [], rfl, Ob.mk dNone ?_⟩
  refine ⟨Nat × List Dig × Nat, fun ⟨i, out, c⟩ => ⟨[(8, i64 i), (7, u64 c), (6, .own 0), (0, .sl dgE a), (1, .sl dgE b)], [(0, dArr out)], 1, 41, 0⟩,
    fun q => q.1 ≤ a.length ∧ q.2.1.length = q.1 ∧ q.2.2 ≤ 1 ∧ val q.2.1 + val (b.take q.1) = val (a.take q.1) + 4294967296 ^ q.1 * q.2.2, fun q => a.length - q.1, (0, [], 0), ?_, ?_, ?_⟩
  · exact ⟨Nat.zero_le _, rfl, Nat.zero_le _, rfl⟩
  · exact sub_of [(0, some 0)] rfl rfl rfl ⟨rfl, rfl, rfl, rfl, rfl, trivial⟩ ⟨rfl, trivial⟩
  rintro ⟨i, out, c⟩ ⟨h1, h2, h3, h4⟩
  dsimp only at h1 h2 h3 h4
  intro hl1
  refine Br.mk (fun h5 => ?_) (fun h5 => ?_)
  · have d1 := dig_lt a i
    have d2 := dig_lt b i
    refine CallV.to _ (r1_digit a _ (by omega)) rfl ?_
    simp only [Int.toNat_natCast]
    refine Ar.fit (by omega) ?_
    refine CallV.to _ (r1_digit b _ (by omega)) rfl ?_
    simp only [Int.toNat_natCast]
    refine Ar.fit (by omega) ?_
    refine Ar.fit (by omega) ?_
    refine Ar.wrap ?_
    refine ⟨Dig, dgE, [dof (4294967296 + dig a i - dig b i - c)], congrArg (fun n => [u32 n]) (dofW (by omega)), Ob.mk (dOne _) ?_⟩
    refine ⟨_, rfl, Ob.mk (dApp (by simp; omega)) ?_⟩
    refine Ob.mk (by decide) ?_
    refine Ar.fit (by simp only [Int.reducePow]; omega) ?_
    refine Ar.fit (by omega) ?_
    refine ⟨(i + 1, out ++ [dof (4294967296 + dig a i - dig b i - c)], 1 - (4294967296 + dig a i - dig b i - c) / 4294967296), ⟨by dsimp only; omega, by simp [h2], by dsimp only; omega, ?_⟩,
      sub_of [(0, some 2)] rfl rfl rfl ⟨rfl, congrArg (fun n => some (u64 n)) (by dsimp only; omega), rfl, rfl, rfl, trivial⟩ ⟨rfl, trivial⟩, by dsimp only; omega⟩
    dsimp only
    rw [val_snoc, h2, dof_val, val_take_succ, val_take_succ, Nat.pow_succ]
    have e : (4294967296 + dig a i - dig b i - c) % 4294967296 + dig b i + c = dig a i + 4294967296 * (1 - (4294967296 + dig a i - dig b i - c) / 4294967296) := by omega
    generalize 1 - (4294967296 + dig a i - dig b i - c) / 4294967296 = x at *
    generalize (4294967296 + dig a i - dig b i - c) % 4294967296 = y at *
    generalize 4294967296 ^ i = p at *
    have e2 : p * y + p * dig b i + p * c = p * dig a i + p * 4294967296 * x := by
      rw [← Nat.mul_add, ← Nat.mul_add, e, Nat.mul_add, Nat.mul_assoc]
    omega
  · have hi : i = a.length := by omega
    refine CallV.fresh _ _ (r1_normalize _ (by omega)) rfl (dArr_flat _) (.inr (dArr_scalar _)) ?_
    refine ⟨some 1, take_tup (.cons (.own _ rfl) (.cons (.le _ _ (LE_true hle) rfl) .nil)), ?_, fun _ _ => rfl⟩
    have e : val out = val a - val b := by
      subst hi
      have e0 : val (a.take a.length) = val a := val_take_all (Nat.le_refl _)
      rw [e0] at h4
      have e1 := val_split b a.length
      have e2 := val_lt a
      have e3 : val (b.drop a.length) = 0 := by
        rcases Nat.eq_zero_or_pos (val (b.drop a.length)) with h | h
        · exact h
        · have := Nat.mul_le_mul_left (4294967296 ^ a.length) h
          omega
      have e4 := val_lt out
      rw [h2] at e4
      rw [e3] at e1
      have : c = 0 ∨ c = 1 := by omega
      rcases this with rfl | rfl <;> omega
    rw [← e]; rfl

theorem r1_subP (a b : List Dig) (ha : a.length ≤ 900000000) (hb : b.length ≤ 900000000) :
    CallsG Try.prog 160 [.sl dgE a, .sl dgE b] [] (.tup [.sl dgE (digs (val a - val b)), pr (val b ≤ val a)]) [] := (r1_sub a b ha hb).plain rfl

theorem mul_digs {x y c : Nat} (hx : x < 4294967296) (hy : y < 4294967296) (hc : c < 4294967296) : x * y + c ≤ 18446744069414584320 := by
  have : x * y ≤ 4294967295 * 4294967295 := Nat.mul_le_mul (by omega) (by omega)
  omega

theorem mul_digs0 {x y : Nat} (hx : x < 4294967296) (hy : y < 4294967296) : x * y ≤ 18446744065119617025 := by
  have : x * y ≤ 4294967295 * 4294967295 := Nat.mul_le_mul (by omega) (by omega)
  omega
theorem mul_step {p q x y z c u v w o o0 r : Nat} (h4 : o + p * q * c = o0 + p * (x * w)) (hs : r + p * q * z = o + p * q * v) (e : 4294967296 * u + v = x * y + z + c) :
    r + p * q * 4294967296 * u = o0 + p * (x * (w + q * y)) := by grind

set_option maxRecDepth 100000 in
theorem r1_times (a : List Dig) (d : Nat) (ha : a.length ≤ 900000000) (hd : d < 4294967296) :
    CallsG Try.prog 158 [.sl dgE a, u64 d] [] (.own 0) [(0, dArr (digs (val a * d)))] := by
  refine calls_own tok mix Try.func158 rfl rfl rfl ?_
  refine ⟨Dig, dgE, [], rfl, Ob.mk dNone ?_⟩
  refine ⟨Nat × List Dig × Nat, fun ⟨i, out, c⟩ => ⟨[(7, i64 i), (6, u64 c), (5, .own 0), (0, .sl dgE a), (1, u64 d)], [(0, dArr out)], 1, 39, 0⟩,
    fun q => q.1 ≤ a.length ∧ q.2.1.length = q.1 ∧ q.2.2 < 4294967296 ∧ val q.2.1 + 4294967296 ^ q.1 * q.2.2 = val (a.take q.1) * d, fun q => a.length - q.1, (0, [], 0), ?_, ?_, ?_⟩
  · exact ⟨Nat.zero_le _, rfl, by decide, by simp [val]⟩
  · exact sub_of [(0, some 0)] rfl rfl rfl ⟨rfl, rfl, rfl, rfl, rfl, trivial⟩ ⟨rfl, trivial⟩
  rintro ⟨i, out, c⟩ ⟨h1, h2, h3, h4⟩
  dsimp only at h1 h2 h3 h4
  intro hl1
  refine Br.mk (fun h5 => ?_) (fun h5 => ?_)
  · refine Ob.mk (by omega) ?_
    intro x hx
    have hx : a[i]? = some x := hx
    have dx := dig_some hx
    have hm := mul_digs x.isLt hd h3
    have hm0 := mul_digs0 x.isLt hd
    have hxl := x.isLt
    refine Ar.fit (by omega) ?_
    refine Ar.fit (by omega) ?_
    refine Ar.fit (by omega) ?_
    refine Ar.wrap ?_
    refine ⟨Dig, dgE, [dof (x.val * d + c)], congrArg (fun n => [u32 n]) (dofW (by omega)), Ob.mk (dOne _) ?_⟩
    refine ⟨_, rfl, Ob.mk (dApp (by simp; omega)) ?_⟩
    refine Ob.mk (by decide) ?_
    refine Ar.fit (by omega) ?_
    refine ⟨(i + 1, out ++ [dof (x.val * d + c)], (x.val * d + c) / 4294967296), ⟨by dsimp only; omega, by simp [h2], by dsimp only; omega, ?_⟩,
      sub_of [(0, some 2)] rfl rfl rfl ⟨rfl, congrArg (fun n => some (u64 n)) (by dsimp only; omega), rfl, rfl, rfl, trivial⟩ ⟨rfl, trivial⟩, by dsimp only; omega⟩
    dsimp only
    rw [val_snoc, h2, dof_val, val_take_succ, Nat.pow_succ, dx]
    have e := Nat.div_add_mod (x.val * d + c) 4294967296
    generalize (x.val * d + c) / 4294967296 = u at *
    generalize (x.val * d + c) % 4294967296 = v at *
    generalize 4294967296 ^ i = p at *
    generalize x.val = x at *
    generalize val (a.take i) = w at *
    clear hm hm0
    grind
  · have hi : i = a.length := by omega
    refine Ar.wrap ?_
    refine ⟨Dig, dgE, [dof c], congrArg (fun n => [u32 n]) (dofW rfl), Ob.mk (dOne _) ?_⟩
    refine ⟨_, rfl, Ob.mk (dApp (by simp; omega)) ?_⟩
    refine CallV.fresh _ _ (r1_normalize _ (by simp; omega)) rfl (dArr_flat _) (.inr (dArr_scalar _)) ?_
    refine ⟨some 3, .own _ rfl, ?_, fun _ _ => rfl⟩
    have e : val (out ++ [dof c]) = val a * d := by
      rw [val_snoc, h2, dof_val, Nat.mod_eq_of_lt (by omega), h4, val_take_all (by omega)]
    rw [← e]; rfl
theorem r1_timesP (a : List Dig) (d : Nat) (ha : a.length ≤ 900000000) (hd : d < 4294967296) :
    CallsG Try.prog 158 [.sl dgE a, u64 d] [] (.sl dgE (digs (val a * d))) [] := (r1_times a d ha hd).plain rfl

set_option maxRecDepth 100000 in
set_option maxHeartbeats 1000000 in
theorem r1_mul (a b : List Dig) (ha : a.length ≤ 400000000) (hb : b.length ≤ 400000000) :
    CallsG Try.prog 124 [.sl dgE a, .sl dgE b] [] (.own 0) [(0, dArr (digs (val a * val b)))] := by
  refine calls_own tok mix Try.func124 rfl rfl rfl ?_
  intro hl1 hl2
  refine Ar.fit (by omega) ?_
  refine Ar.fit (by omega) ?_
  refine ⟨Dig, dgE, 0, rfl, Ob.mk ⟨by decide, by omega, by omega, (by show _ * (4 : Int) ≤ _; omega), by omega⟩ ?_⟩
  refine ⟨Nat × List Dig, fun ⟨i, out⟩ => ⟨[(6, i64 i), (5, .own 0), (0, .sl dgE a), (1, .sl dgE b)], [(0, dArr out)], 1, 69, 0⟩,
    fun q => q.1 ≤ a.length ∧ q.2.length = a.length + b.length + 1 ∧ val q.2 = val (a.take q.1) * val b ∧ ∀ j, q.1 + b.length ≤ j → dig q.2 j = 0, fun q => a.length - q.1, (0, List.replicate (a.length + b.length + 1) 0), ?_, ?_, ?_⟩
  · exact ⟨Nat.zero_le _, by simp, by simp [val_zeros, val], fun j _ => dig_replicate _ _⟩
  · exact sub_of [(0, some 0)] rfl rfl rfl ⟨rfl, rfl, rfl, rfl, trivial⟩ ⟨congrArg (fun n => some (dArr (List.replicate n 0))) (by omega), trivial⟩
  rintro ⟨i, out0⟩ ⟨h1, h2, h3, h4⟩
  dsimp only at h1 h2 h3 h4
  intro hl3
  refine Br.mk (fun h5 => ?_) (fun h5 => ?_)
  · refine ⟨Nat × List Dig × Nat, fun ⟨k, out, c⟩ => ⟨[(8, i64 k), (7, u64 c), (6, i64 i), (5, .own 0), (0, .sl dgE a), (1, .sl dgE b)], [(0, dArr out)], 1, 69, 0⟩,
      fun q => q.1 ≤ b.length ∧ q.2.1.length = a.length + b.length + 1 ∧ q.2.2 < 4294967296 ∧ val q.2.1 + 4294967296 ^ (i + q.1) * q.2.2 = val out0 + 4294967296 ^ i * (dig a i * val (b.take q.1)) ∧ ∀ j, i + b.length ≤ j → dig q.2.1 j = 0, fun q => b.length - q.1, (0, out0, 0), ?_, ?_, ?_⟩
    · exact ⟨Nat.zero_le _, h2, by dsimp only; omega, by simp [val], h4⟩
    · exact sub_of [(0, some 0)] rfl rfl rfl ⟨rfl, rfl, rfl, rfl, rfl, rfl, trivial⟩ ⟨rfl, trivial⟩
    rintro ⟨k, out, c⟩ ⟨g1, g2, g3, g4, g5⟩
    dsimp only at g1 g2 g3 g4 g5
    intro hl4
    refine Br.mk (fun g6 => ?_) (fun g6 => ?_)
    · refine Dr.mk (by decide +kernel) ?_
      refine Ob.mk (by omega) ?_
      intro x hx
      have hx : a[i]? = some x := hx
      have dx := dig_some hx
      have hxl := x.isLt
      refine Ar.fit (by omega) ?_
      refine Ob.mk (by omega) ?_
      intro y hy
      have hy : b[k]? = some y := hy
      have dy := dig_some hy
      have hyl := y.isLt
      refine Ar.fit (by omega) ?_
      have hm0 := mul_digs0 hxl hyl
      refine Ar.fit (by omega) ?_
      refine Ar.fit (by omega) ?_
      refine Ob.mk (by omega) ?_
      refine Ob.mk (by omega) ?_
      intro z hz
      rw [show ((i : Int) + k).toNat = i + k by omega] at hz
      have dz := dig_some hz
      have hzl := z.isLt
      refine Ar.fit (by omega) ?_
      refine Ar.fit (by omega) ?_
      refine Ar.fit (by omega) ?_
      refine Ar.fit (by omega) ?_
      refine Ar.wrap ?_
      refine Ob.mk (by omega) ?_
      refine Ob.mk (by omega) ?_
      intro z' hz'
      refine ⟨dof (x.val * y.val + z.val + c), congrArg (fun n => [u32 n]) (dofW (by omega)), ?_⟩
      refine Ob.mk (by decide) ?_
      refine Ar.fit (by omega) ?_
      refine ⟨(k + 1, out.set (i + k) (dof (x.val * y.val + z.val + c)), (x.val * y.val + z.val + c) / 4294967296), ⟨by dsimp only; omega, by simp [g2], by dsimp only; omega, ?_, ?_⟩,
        sub_of [(0, some 0)] rfl rfl rfl ⟨rfl, congrArg (fun n => some (u64 n)) (by dsimp only; omega), rfl, rfl, rfl, rfl, trivial⟩ ⟨congrArg (fun n => some (dArr (out.set n _))) (by omega), trivial⟩, by dsimp only; omega⟩
      · dsimp only
        have hs := val_set out (i + k) (dof (x.val * y.val + z.val + c)) (by omega)
        rw [dof_val, dz] at hs
        rw [val_take_succ, dy, ← Nat.add_assoc i k 1, Nat.pow_succ]
        rw [dx] at g4 ⊢
        have e := Nat.div_add_mod (x.val * y.val + z.val + c) 4294967296
        rw [Nat.pow_add] at g4 hs ⊢
        exact mul_step g4 hs e
      · intro j hj
        dsimp only
        rw [dig_set, if_neg (by omega)]
        exact g5 j hj
    · have hk : k = b.length := by omega
      intro hl5
      refine Ar.fit (by omega) ?_
      refine Ar.wrap ?_
      refine Ob.mk (by omega) ?_
      refine Ob.mk (by omega) ?_
      intro z' hz'
      refine ⟨dof c, congrArg (fun n => [u32 n]) (dofW rfl), ?_⟩
      refine Ar.fit (by omega) ?_
      refine ⟨(i + 1, out.set (i + b.length) (dof c)), ⟨by dsimp only; omega, by simp [g2], ?_, ?_⟩,
        sub_of [(0, some 0)] rfl rfl rfl ⟨rfl, rfl, rfl, rfl, trivial⟩ ⟨congrArg (fun n => some (dArr (out.set n _))) (by omega), trivial⟩, by dsimp only; omega⟩
      · dsimp only
        have hs := val_set out (i + b.length) (dof c) (by omega)
        rw [dof_val, g5 _ (Nat.le_refl _), Nat.mod_eq_of_lt g3] at hs
        rw [hk, val_take_all (Nat.le_refl _), h3] at g4
        rw [val_take_succ]
        generalize val (out.set (i + b.length) _) = r at *
        generalize 4294967296 ^ i = p at *
        generalize 4294967296 ^ (i + b.length) = q at *
        generalize val (a.take i) = w at *
        generalize dig a i = x at *
        generalize val out = o at *
        clear h4 g5
        grind
      · intro j hj
        dsimp only
        rw [dig_set, if_neg (by omega)]
        exact g5 j (by omega)
  · have hi : i = a.length := by omega
    refine CallV.fresh _ _ (r1_normalize _ (by omega)) rfl (dArr_flat _) (.inr (dArr_scalar _)) ?_
    refine ⟨some 1, .own _ rfl, ?_, fun _ _ => rfl⟩
    rw [hi, val_take_all (Nat.le_refl _)] at h3
    rw [← h3]; rfl
theorem r1_mulP (a b : List Dig) (ha : a.length ≤ 400000000) (hb : b.length ≤ 400000000) :
    CallsG Try.prog 124 [.sl dgE a, .sl dgE b] [] (.sl dgE (digs (val a * val b))) [] := (r1_mul a b ha hb).plain rfl

end Go.Gs
