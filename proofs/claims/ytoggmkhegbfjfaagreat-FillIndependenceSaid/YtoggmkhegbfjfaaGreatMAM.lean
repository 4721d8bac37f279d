/- Natural numbers, the program's: shifts, binary digits. -/
import Derived.Test.YtoggmkhegbfjfaaGreatMAL
import Derived.Laws.MathBits
namespace Go.Gs
open Go.Proofs

theorem LE_nil_full {α : Type} {enc : α → List SV} : LE (.val (.slice none 0 0)) (.full enc []) := fun S Pm ρ w v hg => by
  rw [hg.val_inv]; exact .d _ _ (.full enc [] none (.nil enc none))

theorem or32 {x y : Nat} (hx : x < 4294967296) (hy : y < 4294967296) : bitsK .or .u32 x y = ((x ||| y : Nat) : Int) := by
  show IntKind.u32.wrap ((BitVec.ofInt 32 x ||| BitVec.ofInt 32 y).toNat : Nat) = _
  have h : x ||| y < 2 ^ 32 := Nat.or_lt_two_pow hx hy
  have e : (BitVec.ofInt 32 x ||| BitVec.ofInt 32 y).toNat = x ||| y := by
    rw [BitVec.toNat_or, BitVec.toNat_ofInt, BitVec.toNat_ofInt]
    congr 1
    · omega
    · omega
  rw [e, wrap32]; omega
/-- The low part of a shifted digit beside what came over. -/
theorem or_low {c x s p : Nat} (hp : p < 32) (hs : 2 ^ p = s) (hc : c < s) : c ||| (x * s % 4294967296) = c + x * s % 4294967296 ∧ c + x * s % 4294967296 < 4294967296 := by
  have h32 : 4294967296 = s * 2 ^ (32 - p) := by rw [← hs, ← Nat.pow_add, show p + (32 - p) = 32 by omega]
  have hm : x * s % 4294967296 = s * (x % 2 ^ (32 - p)) := by rw [h32, Nat.mul_comm x s, Nat.mul_mod_mul_left]
  have hlt : x % 2 ^ (32 - p) < 2 ^ (32 - p) := Nat.mod_lt _ (Nat.pow_pos (by decide))
  have h1 := Nat.two_pow_add_eq_or_of_lt (i := p) (b := c) (by rw [hs]; exact hc) (x % 2 ^ (32 - p))
  rw [hs] at h1
  rw [hm, Nat.or_comm, ← h1]
  have h2 : s * (x % 2 ^ (32 - p)) + s ≤ s * 2 ^ (32 - p) := by
    rw [← Nat.mul_succ]; exact Nat.mul_le_mul_left _ hlt
  rw [← h32] at h2
  exact ⟨by omega, by omega⟩
theorem or_high {x y : Nat} {e : Int} (hx : x < 4294967296) (hy : y < 4294967296) (he : e = (y : Int) * 2 ^ 32) : bitsK .or .u64 x e = ((y * 4294967296 + x : Nat) : Int) := by
  have h1 : e = ((y * 4294967296 : Nat) : Int) := by rw [he]; simp only [Int.reducePow]; omega
  rw [h1, or_nat (by omega) (by omega), Nat.or_comm]
  have := Nat.two_pow_add_eq_or_of_lt (i := 32) (b := x) (by rw [show 2 ^ 32 = 4294967296 by decide]; exact hx) y
  rw [show 2 ^ 32 = 4294967296 by decide, Nat.mul_comm] at this
  rw [← this]

theorem shl_step {p w s v x lo hi o o1 o2 q : Nat} (h : o = w * (s * v)) (h1 : o1 + p * w * q = o + p * w * (q + lo)) (h2 : o2 = o1 + p * w * 4294967296 * hi) (e : 4294967296 * hi + lo = x * s) : o2 = w * (s * (v + p * x)) := by
  subst h2; subst h
  have : o1 = w * (s * v) + p * w * lo := by
    rw [Nat.mul_add (p * w) q lo] at h1; omega
  subst this
  grind

set_option maxRecDepth 100000 in
set_option maxHeartbeats 1000000 in
theorem n_shl (a0 : List Dig) (n : Nat) (ha : a0.length ≤ 800000000) (hn : n ≤ 4096) :
    CallsG Tryz.prog 247 [.sl dgE a0, i64 n] [] (.full dgE (digs (val a0 * 2 ^ n))) [] := by
  refine calls_to tok mix Tryz.func247 rfl rfl rfl ?_
  refine CallV.to _ (n_shortS a0 (by omega)) rfl ?_
  have la := digs_val_len a0
  have va := val_digs (val a0)
  generalize digs (val a0) = a at *
  rw [← va]
  clear va
  have hs0 : 2 ^ (n % 32) ≤ 2 ^ 31 := Nat.pow_le_pow_right (by decide) (by omega)
  have hs1 : 0 < 2 ^ (n % 32) := Nat.pow_pos (by decide)
  generalize hs : 2 ^ (n % 32) = s at *
  refine Br.mk (fun h => by omega) (fun h => ?_)
  have em : minL (n : Int) [4096] = n := by simp only [minL]; omega
  change Dv _ _ _ _
  rw [em]
  refine Dv.pos ⟨by omega, by omega, by show _ ≤ (9223372036854775807 : Int); omega⟩ ?_
  refine Dv.pos ⟨by omega, by omega⟩ ?_
  intro hl7
  refine Ar.fit (by omega) ?_
  refine Ar.fit (by omega) ?_
  refine ⟨Dig, dgE, 0, rfl, Ob.mk ⟨by decide, by omega, by omega, (by show _ * (4 : Int) ≤ _; omega), by omega⟩ ?_⟩
  intro hl8
  refine ⟨Nat × List Dig, fun ⟨i, out⟩ => ⟨[(76, i64 i), (75, i64 a.length), (74, .sl dgE a), (9, i64 (n / 32 : Nat)), (10, i64 (n % 32 : Nat)), (11, .own 0)], [(0, dArr out)], 1, 107, 0⟩,
    fun q => q.1 ≤ a.length ∧ q.2.length = a.length + n / 32 + 1 ∧ (∀ j, q.1 + n / 32 < j → dig q.2 j = 0) ∧ dig q.2 (q.1 + n / 32) < s ∧ val q.2 = 4294967296 ^ (n / 32) * (s * val (a.take q.1)), fun q => a.length - q.1, (0, List.replicate (a.length + n / 32 + 1) 0), ?_, ?_, ?_⟩
  · refine ⟨Nat.zero_le _, by simp, fun j _ => dig_replicate _ _, by dsimp only; rw [dig_replicate]; exact hs1, by simp [val_zeros, val]⟩
  · exact sub_of [(0, some 0)] rfl rfl rfl ⟨rfl, rfl, rfl, congrArg (fun n => some (i64 n)) (by omega), congrArg (fun n => some (i64 n)) (by omega), rfl, trivial⟩ ⟨congrArg (fun n => some (dArr (List.replicate n 0))) (by omega), trivial⟩
  rintro ⟨i, out⟩ ⟨h1, h2, h3, h4, h5⟩
  dsimp only at h1 h2 h3 h4 h5
  refine Br.mk (fun h9 => ?_) (fun h9 => ?_)
  · refine Ob.mk (by omega) ?_
    intro x hx
    have hx : a[i]? = some x := hx
    have dx := dig_some hx
    have hxl := x.isLt
    refine Ar.fit (by omega) ?_
    refine Ob.mk (by show _ ∧ _ < (64 : Int); omega) ?_
    have hm : x.val * s ≤ 4294967295 * 2 ^ 31 := Nat.mul_le_mul (by omega) hs0
    have hm2 : (x.val : Int) * 2 ^ ((n % 32 : Nat) : Int).toNat = ((x.val * s : Nat) : Int) := by
      rw [← hs, Int.toNat_natCast]; simp
    have hm3 : x.val * s < 4294967296 * s := Nat.mul_lt_mul_of_pos_right hxl hs1
    refine Ar.fit (by rw [hm2]; omega) ?_
    rw [hm2]
    refine Ar.fit (by omega) ?_
    refine Ob.mk (by omega) ?_
    refine Ob.mk (by omega) ?_
    intro c hc
    rw [show ((i : Int) + (n / 32 : Nat)).toNat = i + n / 32 by omega] at hc
    have dc := dig_some hc
    have hcl := c.isLt
    rw [dc] at h4
    obtain ⟨o1, o2⟩ := or_low (c := c.val) (x := x.val) (s := s) (p := n % 32) (by omega) hs h4
    refine Ar.wrap ?_
    have ew : IntKind.u32.wrap ((x.val * s : Nat) : Int) = ((x.val * s % 4294967296 : Nat) : Int) := by rw [wrap32]; omega
    rw [ew]
    refine ⟨_, (or32 hcl (Nat.mod_lt _ (by decide))).symm, ?_⟩
    rw [o1]
    refine Ob.mk (by omega) ?_
    refine Ob.mk (by omega) ?_
    intro z hz
    refine ⟨dof (c.val + x.val * s % 4294967296), congrArg (fun n => [u32 n]) (by rw [dof_val, Nat.mod_eq_of_lt o2]), ?_⟩
    refine Ar.fit (by omega) ?_
    refine Ar.fit (by omega) ?_
    refine Ob.mk (by decide) ?_
    refine Ar.wrap ?_
    refine Ob.mk (by rw [List.length_set]; omega) ?_
    refine Ob.mk (by rw [List.length_set]; omega) ?_
    intro z2 hz2
    have hhi : x.val * s / 4294967296 < s := by rw [Nat.div_lt_iff_lt_mul (by decide)]; omega
    refine ⟨dof (x.val * s / 4294967296), congrArg (fun n => [u32 n]) (dofW (by simp only [Int.reducePow]; omega)), ?_⟩
    refine Ar.fit (by omega) ?_
    have ei : ((i : Int) + (n / 32 : Nat)).toNat = i + n / 32 := by omega
    have ei1 : ((i : Int) + (n / 32 : Nat) + 1).toNat = i + n / 32 + 1 := by omega
    refine ⟨(i + 1, (out.set (i + n / 32) (dof (c.val + x.val * s % 4294967296))).set (i + n / 32 + 1) (dof (x.val * s / 4294967296))), ⟨by dsimp only; omega, by simp [h2], fun j hj => ?_, ?_, ?_⟩,
      sub_of [(0, some 0)] rfl rfl rfl ⟨rfl, rfl, rfl, rfl, rfl, rfl, trivial⟩ ⟨congrArg (fun l => some (dArr l)) (by rw [ei, ei1]), trivial⟩, by dsimp only; omega⟩
    · dsimp only at hj ⊢
      rw [dig_set, if_neg (by omega), dig_set, if_neg (by omega)]; exact h3 j (by omega)
    · dsimp only
      rw [show i + 1 + n / 32 = i + n / 32 + 1 by omega, dig_set, if_pos ⟨rfl, by rw [List.length_set]; omega⟩, dof_val, Nat.mod_eq_of_lt (by omega)]
      exact hhi
    · dsimp only
      have s1 := val_set out (i + n / 32) (dof (c.val + x.val * s % 4294967296)) (by omega)
      have s2 := val_set (out.set (i + n / 32) (dof (c.val + x.val * s % 4294967296))) (i + n / 32 + 1) (dof (x.val * s / 4294967296)) (by rw [List.length_set]; omega)
      rw [dof_val, Nat.mod_eq_of_lt o2, dc, Nat.pow_add] at s1
      have hmm : x.val * s / 4294967296 % 4294967296 = x.val * s / 4294967296 := Nat.mod_eq_of_lt (by omega)
      rw [dig_set, if_neg (by omega), h3 _ (by omega), Nat.mul_zero, Nat.add_zero, dof_val, hmm, Nat.pow_succ, Nat.pow_add] at s2
      rw [val_take_succ, dx]
      exact shl_step h5 s1 s2 (Nat.div_add_mod _ _)
  · have hi : i = a.length := by omega
    subst hi
    rw [val_take_all (Nat.le_refl _), ← hs, pow32, ← Nat.mul_assoc, ← Nat.pow_add, show 32 * (n / 32) + n % 32 = n by omega, Nat.mul_comm] at h5
    refine CallV.see 0 _ (n_short out (by omega)) rfl rfl rfl ?_
    rw [h5]
    exact .refl

set_option maxRecDepth 100000 in
set_option maxHeartbeats 1000000 in
theorem n_shr (a0 : List Dig) (n : Nat) (ha : a0.length ≤ 800000000) (hn : n ≤ 1000000000000) (hn0 : n ≠ 0) :
    CallsG Tryz.prog 247 [.sl dgE a0, i64 (-(n : Int))] [] (.full dgE (digs (val a0 / 2 ^ n))) [] := by
  refine calls_to tok mix Tryz.func247 rfl rfl rfl ?_
  refine CallV.to _ (n_shortS a0 (by omega)) rfl ?_
  have la := digs_val_len a0
  have va := val_digs (val a0)
  generalize digs (val a0) = a at *
  rw [← va]
  clear va
  refine Br.mk (fun h => ?_) (fun h => by omega)
  intro hl2
  refine Ar.fit (by omega) ?_
  refine Br.mk (fun h3 => ?_) (fun h3 => ?_)
  · have e : val a / 2 ^ n = 0 := by
      refine Nat.div_eq_of_lt (Nat.lt_of_lt_of_le (val_lt a) ?_)
      rw [pow32]
      exact Nat.pow_le_pow_right (by decide) (by omega)
    rw [e, digs_zero]; exact LE_nil_full
  refine Ar.fit (by omega) ?_
  refine Dv.pos ⟨by omega, by omega, by show _ ≤ (9223372036854775807 : Int); omega⟩ ?_
  refine Ar.fit (by omega) ?_
  refine Dv.pos ⟨by omega, by omega⟩ ?_
  intro hl4
  refine Ar.fit (by omega) ?_
  refine ⟨Dig, dgE, 0, rfl, Ob.mk ⟨by decide, by omega, by omega, (by show _ * (4 : Int) ≤ _; omega), by omega⟩ ?_⟩
  intro hl5
  refine ⟨Nat × List Dig, fun ⟨i, out⟩ => ⟨[(37, i64 i), (36, i64 (a.length - n / 32 : Nat)), (0, .sl dgE a), (5, i64 (n / 32 : Nat)), (6, i64 (n % 32 : Nat)), (7, .own 0)], [(0, dArr out)], 1, 107, 0⟩,
    fun q => q.1 ≤ a.length - n / 32 ∧ q.2.length = a.length - n / 32 ∧ ∀ j, j < q.1 → dig q.2 j = val a / 2 ^ n / 4294967296 ^ j % 4294967296, fun q => a.length - n / 32 - q.1, (0, List.replicate (a.length - n / 32) 0), ?_, ?_, ?_⟩
  · exact ⟨Nat.zero_le _, by simp, fun j h => by dsimp only at h; omega⟩
  · exact sub_of [(0, some 0)] rfl rfl rfl ⟨rfl, congrArg (fun n => some (i64 n)) (by simp; omega), rfl, congrArg (fun n => some (i64 n)) (by omega), congrArg (fun n => some (i64 n)) (by omega), rfl, trivial⟩ ⟨congrArg (fun n => some (dArr (List.replicate n 0))) (by omega), trivial⟩
  rintro ⟨i, out⟩ ⟨g1, g2, g3⟩
  dsimp only at g1 g2 g3
  refine Br.mk (fun h6 => ?_) (fun h6 => ?_)
  · have d1 := dig_lt a (n / 32 + i)
    have d2 := dig_lt a (n / 32 + i + 1)
    refine Ar.fit (by omega) ?_
    refine CallV.to _ (n_digit a _ (by omega)) rfl ?_
    rw [show ((i : Int) + (n / 32 : Nat)).toNat = n / 32 + i by omega]
    refine Ar.fit (by omega) ?_
    refine Ar.fit (by omega) ?_
    refine CallV.to _ (n_digit a _ (by omega)) rfl ?_
    rw [show ((i : Int) + (n / 32 : Nat) + 1).toNat = n / 32 + i + 1 by omega]
    refine Ob.mk (by decide) ?_
    refine Ar.fit (by simp only [Int.reducePow]; omega) ?_
    refine ⟨_, (or_high d1 d2 rfl).symm, ?_⟩
    refine Ob.mk (by show _ ∧ _ < (64 : Int); omega) ?_
    refine Ar.wrap ?_
    refine Ob.mk (by omega) ?_
    refine Ob.mk (by omega) ?_
    intro z hz
    refine ⟨dof ((dig a (n / 32 + i + 1) * 4294967296 + dig a (n / 32 + i)) / 2 ^ (n % 32)), congrArg (fun n => [u32 n]) (dofW (by rw [Int.toNat_natCast]; simp)), ?_⟩
    refine Ar.fit (by omega) ?_
    refine ⟨(i + 1, out.set i (dof ((dig a (n / 32 + i + 1) * 4294967296 + dig a (n / 32 + i)) / 2 ^ (n % 32)))), ⟨by dsimp only; omega, by simp [g2], fun j hj => ?_⟩,
      sub_of [(0, some 0)] rfl rfl rfl ⟨rfl, rfl, rfl, rfl, rfl, rfl, trivial⟩ ⟨rfl, trivial⟩, by dsimp only; omega⟩
    dsimp only at hj ⊢
    by_cases e : i = j
    · subst e
      rw [dig_set, if_pos ⟨rfl, by omega⟩, dof_val]
      have := shr_dig a (n / 32) (n % 32) i (by omega)
      rw [show 32 * (n / 32) + n % 32 = n by omega] at this
      rw [this]
    · rw [dig_set, if_neg (fun h => e h.1)]; exact g3 j (by omega)
  · have hi : i = a.length - n / 32 := by omega
    have e : val out = val a / 2 ^ n := by
      rw [val_of_digs (fun j hj => g3 j (by omega)), Nat.mod_eq_of_lt]
      rw [Nat.div_lt_iff_lt_mul (Nat.pow_pos (by decide))]
      refine Nat.lt_of_lt_of_le (val_lt a) ?_
      rw [pow32, pow32, ← Nat.pow_add]
      exact Nat.pow_le_pow_right (by decide) (by omega)
    refine CallV.see 0 _ (n_short out (by omega)) rfl rfl rfl ?_
    rw [e]
    exact .refl

end Go.Gs
/- Natural numbers, the program's: how many binary digits. -/
namespace Go.Gs
open Go.Proofs

theorem tab_at {s : ByteArray} {i : Nat} {b : UInt8} (hb : s[i]? = some b) (hi : i < s.size) (key : ∀ h : i < s.size, (s[i]'h).toNat = bitLen i) : b.toNat = nbits i := by
  have e := getElem?_pos s i hi
  rw [hb] at e
  rw [Option.some.inj e]; exact key hi
theorem nbits_shift {x : Nat} (b : Nat) (h : 2 ^ b ≤ x) : nbits x = b + nbits (x / 2 ^ b) :=
  bitLen_shift x b (Nat.ne_of_gt (Nat.div_pos h (Nat.pow_pos (by decide))))

set_option maxRecDepth 100000 in
theorem n_len32 (x : Nat) (hx : x < 4294967296) : CallsG Tryz.prog 291 [u32 x] [] (i64 (nbits x)) [] := by
  refine calls_to tok mix Tryz.func291 rfl rfl rfl ?_
  have fin : ∀ (y : Nat) (k : Int), y < 256 → (nbits x : Int) = k + nbits y → ∀ b : UInt8, b.toNat = nbits y → (k + (b.toNat : Int)) = nbits x := fun y k _ h b hb => by rw [h, hb]
  have small : ∀ y : Nat, y < 256 → nbits y ≤ 8 := fun y hy => bitLen_le8 y hy
  refine Br.mk (fun h1 => ?_) (fun h1 => ?_)
  · refine Ob.mk (by decide) ?_
    have e1 : (x : Int) / 2 ^ 16 = ((x / 65536 : Nat) : Int) := by simp
    rw [e1]
    have n1 := nbits_shift (x := x) 16 (by omega)
    rw [show (2 : Nat) ^ 16 = 65536 by decide] at n1
    have hx1 : x / 65536 < 65536 := by omega
    generalize x / 65536 = y at *
    refine Br.mk (fun h2 => ?_) (fun h2 => ?_)
    · refine Ob.mk (by decide) ?_
      have e2 : (y : Int) / 2 ^ 8 = ((y / 256 : Nat) : Int) := by simp
      rw [e2]
      have n2 := nbits_shift (x := y) 8 (by omega)
      rw [show (2 : Nat) ^ 8 = 256 by decide] at n2
      have hy1 : y / 256 < 256 := by omega
      generalize y / 256 = z at *
      refine Ar.fit (by omega) ?_
      refine Ar.fit (by omega) ?_
      refine Ob.mk ⟨by omega, by show _ < ((256 : Nat) : Int); omega⟩ ?_
      intro b hb
      have hb' : b.toNat = nbits z := tab_at hb (by show z < 256; exact hy1) (fun h => len8tab_get z h)
      have := small z hy1
      refine Ar.fit (by omega) ?_
      refine Ar.fit (by omega) ?_
      exact LE_int (by omega)
    · have hy1 : y < 256 := by omega
      refine Ar.fit (by omega) ?_
      refine Ob.mk ⟨by omega, by show _ < ((256 : Nat) : Int); omega⟩ ?_
      intro b hb
      have hb' : b.toNat = nbits y := tab_at hb (by show y < 256; exact hy1) (fun h => len8tab_get y h)
      have := small y hy1
      refine Ar.fit (by omega) ?_
      refine Ar.fit (by omega) ?_
      exact LE_int (by omega)
  · refine Br.mk (fun h2 => ?_) (fun h2 => ?_)
    · refine Ob.mk (by decide) ?_
      have e2 : (x : Int) / 2 ^ 8 = ((x / 256 : Nat) : Int) := by simp
      rw [e2]
      have n2 := nbits_shift (x := x) 8 (by omega)
      rw [show (2 : Nat) ^ 8 = 256 by decide] at n2
      have hy1 : x / 256 < 256 := by omega
      generalize x / 256 = z at *
      refine Ar.fit (by omega) ?_
      refine Ar.fit (by omega) ?_
      refine Ob.mk ⟨by omega, by show _ < ((256 : Nat) : Int); omega⟩ ?_
      intro b hb
      have hb' : b.toNat = nbits z := tab_at hb (by show z < 256; exact hy1) (fun h => len8tab_get z h)
      have := small z hy1
      refine Ar.fit (by omega) ?_
      refine Ar.fit (by omega) ?_
      exact LE_int (by omega)
    · have hy1 : x < 256 := by omega
      refine Ar.fit (by omega) ?_
      refine Ob.mk ⟨by omega, by show _ < ((256 : Nat) : Int); omega⟩ ?_
      intro b hb
      have hb' : b.toNat = nbits x := tab_at hb (by show x < 256; exact hy1) (fun h => len8tab_get x h)
      have := small x hy1
      refine Ar.fit (by omega) ?_
      refine Ar.fit (by omega) ?_
      exact LE_int (by omega)

theorem nbits32 {x : Nat} (hx : x < 4294967296) : nbits x ≤ 32 := by
  by_cases h : x = 0
  · subst h; decide
  · have := nbits_ge h
    have := (Nat.pow_lt_pow_iff_right (by decide : 1 < 2)).1 (Nat.lt_of_le_of_lt this (show x < 2 ^ 32 from hx))
    omega

theorem n_lz32 (x : Nat) (hx : x < 4294967296) : CallsG Tryz.prog 284 [u32 x] [] (i64 (32 - nbits x : Nat)) [] := by
  refine calls_to tok mix Tryz.func284 rfl rfl rfl ?_
  refine CallV.to _ (n_len32 x hx) rfl ?_
  have := nbits32 hx
  refine Ar.fit (by omega) ?_
  exact LE_int (by omega)

theorem n_bitlen (a : List Dig) (ha : a.length ≤ 900000000) : CallsG Tryz.prog 246 [.sl dgE a] [] (i64 (nbits (val a))) [] := by
  refine calls_to tok mix Tryz.func246 rfl rfl rfl ?_
  refine CallV.to _ (n_shortS _ (by omega)) rfl ?_
  intro hl
  have hlen := digs_val_len a
  refine Br.mk (fun h => ?_) (fun h => ?_)
  · have : digs (val a) = [] := List.length_eq_zero_iff.1 (by omega)
    exact LE_int (by rw [digs_nil.1 this]; rfl)
  have hne : digs (val a) ≠ [] := fun e => h (by rw [e]; rfl)
  have hn := (normd_digs (val a)).resolve_left hne
  have htop := nbits_top hn
  rw [val_digs] at htop
  intro hl2
  refine Ar.fit (by omega) ?_
  refine Ar.fit (by omega) ?_
  intro hl3
  refine Ar.fit (by omega) ?_
  refine Ob.mk (by omega) ?_
  intro x hx
  rw [show (((digs (val a)).length : Int) - 1).toNat = (digs (val a)).length - 1 by omega] at hx
  have dx := dig_some hx
  have hxl := x.isLt
  refine CallV.to _ (n_len32 x.val hxl) rfl ?_
  rw [dx] at htop
  have := nbits32 hxl
  refine Ar.fit (by omega) ?_
  exact LE_int (by omega)

theorem n_shrS (a : List Dig) (n : Nat) (ha : a.length ≤ 800000000) (hn : n ≤ 1000000000000) :
    CallsG Tryz.prog 247 [.sl dgE a, i64 (-(n : Int))] [] (.sl dgE (digs (val a / 2 ^ n))) [] := by
  by_cases h : n = 0
  · subst h
    have := (n_shl a 0 ha (by omega)).le (LE_full_sl rfl)
    rw [Nat.pow_zero, Nat.mul_one] at this
    rw [Nat.pow_zero, Nat.div_one]
    exact this
  · exact (n_shr a n ha hn h).le (LE_full_sl rfl)
theorem n_shlS (a : List Dig) (n : Nat) (ha : a.length ≤ 800000000) (hn : n ≤ 4096) :
    CallsG Tryz.prog 247 [.sl dgE a, i64 n] [] (.sl dgE (digs (val a * 2 ^ n))) [] := (n_shl a n ha hn).le (LE_full_sl rfl)

end Go.Gs
/- Natural numbers, the program's: quotient and remainder. -/
namespace Go.Gs
open Go.Proofs

/-- The divisor is shifted until its top digit is full. -/
theorem norm_shift {B s : Nat} (hB : B ≠ 0) (hs : s + nbits (dig (digs B) ((digs B).length - 1)) = 32) :
    (digs (B * 2 ^ s)).length = (digs B).length ∧ 2147483648 ≤ dig (digs (B * 2 ^ s)) ((digs B).length - 1) := by
  have hne : digs B ≠ [] := fun e => hB (digs_nil.1 e)
  have htop := nbits_top ((normd_digs B).resolve_left hne)
  rw [val_digs] at htop
  have hp : 0 < 2 ^ s := Nat.pow_pos (by decide)
  have hV0 : B * 2 ^ s ≠ 0 := Nat.mul_ne_zero hB (by omega)
  have h1 := nbits_lt B
  have h2 := nbits_ge hB
  have hpos := nbits_pos.2 hB
  have hl := digs_len_pos.2 hB
  have e : nbits (B * 2 ^ s) = nbits B + s := by
    refine nbits_unique ?_ hV0 ?_
    · rw [Nat.pow_add]; exact Nat.mul_lt_mul_of_pos_right h1 hp
    · rw [show nbits B + s - 1 = nbits B - 1 + s by omega, Nat.pow_add]; exact Nat.mul_le_mul_right _ h2
  have e32 : nbits (B * 2 ^ s) = 32 * (digs B).length := by omega
  have hle : (digs (B * 2 ^ s)).length ≤ (digs B).length := digs_len (by rw [pow32, ← e32]; exact nbits_lt _)
  have hge : (digs B).length ≤ (digs (B * 2 ^ s)).length := digs_mono (Nat.le_mul_of_pos_right _ hp)
  have hlen : (digs (B * 2 ^ s)).length = (digs B).length := by omega
  refine ⟨hlen, ?_⟩
  have hnV : digs (B * 2 ^ s) ≠ [] := fun e => hV0 (digs_nil.1 e)
  have hz := (normd_digs (B * 2 ^ s)).resolve_left hnV
  have ht2 := nbits_top hz
  rw [val_digs, hlen] at ht2
  rw [hlen] at hz
  have := nbits_ge hz
  rw [show nbits (dig (digs (B * 2 ^ s)) ((digs B).length - 1)) - 1 = 31 by omega] at this
  exact this

/-- One digit of the quotient. -/
theorem dm_round {u q : List Dig} {k n V U : Nat} (hk : k < q.length) (hlen : q.length + n = u.length) (hV : V < 4294967296 ^ n) (g3 : val (u.drop (k + 1)) < V)
    (g4 : U = V * (4294967296 ^ (k + 1) * val (q.drop (k + 1))) + val u) :
    ((u.drop k).take (n + 1)).length = n + 1 ∧ val ((u.drop k).take (n + 1)) < 4294967296 * V ∧ u = u.take k ++ ((u.drop k).take (n + 1) ++ u.drop (k + n + 1)) ∧
    ∀ w : List Dig, w = padDigs (n + 1) (val ((u.drop k).take (n + 1)) % V) → ∀ d : Dig, d.val = val ((u.drop k).take (n + 1)) / V →
      val ((u.take k ++ (w ++ u.drop (k + n + 1))).drop k) < V ∧ U = V * (4294967296 ^ k * val ((q.set k d).drop k)) + val (u.take k ++ (w ++ u.drop (k + n + 1))) := by
  have hwl : ((u.drop k).take (n + 1)).length = n + 1 := by rw [List.length_take, List.length_drop]; omega
  have hd := dig_lt u k
  have hdk := val_drop_cons u k
  have hlt : val (u.drop k) < 4294967296 * V := by omega
  have hsp := val_split (u.drop k) (n + 1)
  rw [List.drop_drop, show k + (n + 1) = k + n + 1 by omega] at hsp
  have hz : val (u.drop (k + n + 1)) = 0 := by
    apply Nat.eq_zero_of_not_pos
    intro h0
    have h1 : 4294967296 ^ (n + 1) ≤ 4294967296 ^ (n + 1) * val (u.drop (k + n + 1)) := Nat.le_mul_of_pos_right _ h0
    have h2 : 4294967296 ^ (n + 1) = 4294967296 ^ n * 4294967296 := Nat.pow_succ ..
    omega
  rw [hz, Nat.mul_zero, Nat.add_zero] at hsp
  have hu : u = u.take k ++ ((u.drop k).take (n + 1) ++ u.drop (k + n + 1)) := by
    have e1 : u.drop (k + n + 1) = (u.drop k).drop (n + 1) := by rw [List.drop_drop]; congr 1
    rw [e1, List.take_append_drop, List.take_append_drop]
  refine ⟨hwl, by omega, hu, ?_⟩
  intro w hw d hdv
  have hw0 : val w = val ((u.drop k).take (n + 1)) % V := by
    rw [hw]
    refine val_pad ?_
    refine Nat.lt_of_lt_of_le (Nat.mod_lt _ (by omega)) ?_
    rw [Nat.pow_succ]; omega
  have hwl2 : w.length = n + 1 := by rw [hw, padDigs_len]
  have htl : (u.take k).length = k := by rw [List.length_take]; omega
  have hm := Nat.mod_lt (val ((u.drop k).take (n + 1))) (show V > 0 by omega)
  have hdm := Nat.div_add_mod (val ((u.drop k).take (n + 1))) V
  have hu2 := val_split u k
  rw [hsp] at hu2
  constructor
  · rw [List.drop_append_of_le_length (by omega), List.drop_of_length_le (by omega), List.nil_append, val_append, hz]; omega
  · rw [val_append, val_append, hz, htl, drop_set_self hk, hw0, hdv, g4, hu2, Nat.pow_succ]
    generalize val ((u.drop k).take (n + 1)) = W at *
    generalize W / V = D at *
    generalize W % V = R at *
    generalize 4294967296 ^ k = p at *
    generalize val (q.drop (k + 1)) = Q at *
    generalize val (u.take k) = T at *
    clear hw hw0 hdv hsp hz hu hu2 g4 g3 hdk hwl hwl2 htl hlt hd hlen hk
    subst hdm
    grind

/-- A guess that is one too great is mended by one divisor. -/
theorem dm_mend {W V Bn g : Nat} (h : g = W / V ∨ g = W / V + 1) (hV : 0 < V) (hVB : V ≤ Bn) :
    (if W < g * V then W + Bn - g * V else W - g * V) = (if W < g * V then W % V + Bn - V else W % V) ∧ (W < g * V → g = W / V + 1) ∧ (¬ W < g * V → g = W / V) := by
  have hdm := Nat.div_add_mod W V
  have hm := Nat.mod_lt W hV
  rcases h with rfl | rfl
  · have : ¬ W < W / V * V := Nat.not_lt_of_le (Nat.div_mul_le_self W V)
    rw [if_neg this, if_neg this]
    refine ⟨?_, fun h => absurd h this, fun _ => rfl⟩
    rw [Nat.mul_comm]; omega
  · have e : (W / V + 1) * V = V * (W / V) + V := by rw [Nat.add_mul, Nat.one_mul, Nat.mul_comm]
    have : W < (W / V + 1) * V := by omega
    rw [if_pos this, if_pos this]
    refine ⟨?_, fun _ => rfl, fun h => absurd this h⟩
    omega

theorem dm_wrap {t p d c R : Nat} (hp : t < p) (hd : d < 4294967296) (hc : c ≤ 1) (e : t + p * (d + c) = R + p * 4294967296) : (d + c) % 4294967296 = 0 ∧ t = R := by
  have h : d + c = 4294967296 := by
    rcases Nat.lt_or_ge (d + c) 4294967296 with h | h
    · have h1 : p * (d + c + 1) ≤ p * 4294967296 := Nat.mul_le_mul_left _ h
      rw [Nat.mul_add, Nat.mul_one] at h1
      omega
    · omega
  rw [h] at e ⊢
  exact ⟨rfl, by omega⟩

theorem dm_add {t1 t2 t3 p c z y xq xr : Nat} (f5 : t1 + p * c = t2 + t3) (hd : 4294967296 * xq + xr = c + (z + y)) : t1 + p * xr + p * 4294967296 * xq = t2 + p * z + (t3 + p * y) := by grind

set_option maxRecDepth 100000 in
set_option maxHeartbeats 4000000 in
theorem n_divmod (a b : List Dig) (ha : a.length ≤ 400000000) (hb : b.length ≤ 400000000) (hb0 : val b ≠ 0) :
    CallsG Tryz.prog 236 [.sl dgE a, .sl dgE b] [] (.tup [.sl dgE (digs (val a / val b)), .sl dgE (digs (val a % val b)), i64 0]) [] := by
  refine calls_to tok mix Tryz.func236 rfl rfl rfl ?_
  refine CallV.to _ (n_shortS _ (by omega)) rfl ?_
  refine CallV.to _ (n_shortS _ (by omega)) rfl ?_
  have hla := digs_val_len a
  have hlb := digs_val_len b
  generalize val a = A at *
  generalize val b = B at *
  intro hl
  refine Br.mk (fun h => ?_) (fun h => ?_)
  · exact absurd (digs_nil.1 (List.length_eq_zero_iff.1 (by omega))) hb0
  refine CallV.to _ (n_cmp _ _ (by omega) (by omega)) rfl ?_
  rw [val_digs, val_digs]
  refine Br.mk (fun h2 => ?_) (fun h2 => ?_)
  · have hlt := cmpN_lt.1 h2
    refine CallV.to _ (n_clone _ (by omega)) rfl ?_
    rw [Nat.div_eq_of_lt hlt, Nat.mod_eq_of_lt hlt, digs_zero]
    exact LE_tup (.cons LE_nil0 (.cons .refl (.cons .refl .nil)))
  have hge : B ≤ A := Nat.le_of_not_lt fun h => h2 (cmpN_lt.2 h)
  intro hl2
  refine Br.mk (fun h3 => ?_) (fun h3 => ?_)
  · refine Ob.mk (by omega) ?_
    intro x hx
    have dx := dig_some hx
    have hxl := x.isLt
    have hx1 : digs B = [x] := by
      have hx : (digs B)[0]? = some x := hx
      obtain ⟨y, hy⟩ := List.length_eq_one_iff.1 (show (digs B).length = 1 by omega)
      rw [hy] at hx ⊢
      simp at hx
      rw [hx]
    have hB : x.val = B := by
      have := val_digs B
      rw [hx1, val_cons, val_nil] at this
      omega
    refine CallV.to _ (n_one (digs A) x.val (by omega) hxl (by omega)) rfl ?_
    rw [val_digs, hB]
    have hm := Nat.mod_lt A (show B > 0 by omega)
    refine Ar.fit (by omega) ?_
    refine CallV.to _ (n_fromU64 (A % B) (by omega)) rfl ?_
    exact .refl
  intro hl3
  refine Ar.fit (by omega) ?_
  refine Ob.mk (by omega) ?_
  intro x hx
  rw [show (((digs B).length : Int) - 1).toNat = (digs B).length - 1 by omega] at hx
  have dx := dig_some hx
  have hxl := x.isLt
  refine CallV.to _ (n_lz32 x.val hxl) rfl ?_
  have hn32 := nbits32 hxl
  obtain ⟨s, hs⟩ : ∃ s, 32 - nbits x.val = s := ⟨_, rfl⟩
  rw [hs]
  refine CallV.to _ (n_shlS _ s (by omega) (by omega)) rfl ?_
  refine CallV.to _ (n_shl _ s (by omega) (by omega)) rfl ?_
  rw [val_digs, val_digs]
  obtain ⟨hvl, hvt⟩ := norm_shift (B := B) (s := s) hb0 (by rw [dx]; omega)
  refine ⟨Dig, dgE, [0], rfl, Ob.mk (dOne 0) ?_⟩
  have hul : (digs (A * 2 ^ s)).length ≤ 400000001 := Nat.le_trans (digs_len (k := (digs A).length + 1) (by
    have h1 := digs_lt (n := A) (Nat.le_refl _)
    have h2 : 2 ^ s ≤ 4294967296 ^ 1 := by rw [pow32]; exact Nat.pow_le_pow_right (by decide) (by omega)
    rw [Nat.pow_add]
    exact Nat.lt_of_lt_of_le (Nat.mul_lt_mul_of_pos_right h1 (Nat.pow_pos (by decide))) (Nat.mul_le_mul_left _ h2))) (by omega)
  refine ⟨_, rfl, Ob.mk ⟨List.cons_ne_nil _ _, (by show ((_ : Int) + ((1 : Nat) : Int)) * ((4 : Nat) : Int) ≤ _; omega), (by show _ + 1 ≤ _; omega), by decide, fun _ _ => rfl, fun _ _ => rfl⟩ ?_⟩
  have hp0 : 0 < 2 ^ s := Nat.pow_pos (by decide)
  have hmA : (digs A).length ≤ (digs (A * 2 ^ s)).length := digs_mono (Nat.le_mul_of_pos_right _ hp0)
  have hmB : (digs (B * 2 ^ s)).length ≤ (digs (A * 2 ^ s)).length := digs_mono (Nat.mul_le_mul_right _ hge)
  have hV0 : B * 2 ^ s ≠ 0 := Nat.mul_ne_zero hb0 (by omega)
  have eq1 : A / B = A * 2 ^ s / (B * 2 ^ s) := (Nat.mul_div_mul_right _ _ hp0).symm
  have eq2 : A % B = A * 2 ^ s % (B * 2 ^ s) / 2 ^ s := by rw [Nat.mul_mod_mul_right, Nat.mul_div_cancel _ hp0]
  rw [eq1, eq2]
  have hlb2 : (digs B).length ≠ 0 ∧ (digs B).length ≠ 1 := ⟨by omega, by omega⟩
  rw [← hvl] at hvt
  clear eq1 eq2 hp0
  generalize A * 2 ^ s = U at *
  generalize B * 2 ^ s = V at *
  refine ⟨Unit, fun _ => ⟨[(0, .sl dgE (digs A)), (9, i64 s), (10, .sl dgE (digs V)), (11, .own 0)], [(0, dArr (digs U ++ [0]))], 1, 148, 0⟩, fun _ => True, fun _ => 0, (), trivial, ?_, ?_⟩
  · exact sub_of [(0, some 1)] rfl rfl rfl ⟨rfl, rfl, rfl, rfl, trivial⟩ ⟨rfl, trivial⟩
  rintro ⟨⟩ _
  intro hl4
  intro hl5
  have hll : (digs U ++ [0]).length = (digs U).length + 1 := by simp
  refine Br.mk (fun h4 => ?_) (fun _ => ?_)
  · omega
  intro hl6
  intro hl7
  refine Ar.fit (by omega) ?_
  obtain ⟨nq, hnq⟩ : ∃ nq : Nat, nq + (digs V).length = (digs U).length + 1 := ⟨(digs U).length + 1 - (digs V).length, by omega⟩
  refine ⟨Dig, dgE, 0, rfl, Ob.mk ⟨by decide, by omega, by omega, (by show _ * (4 : Int) ≤ _; omega), by omega⟩ ?_⟩
  intro hl8
  refine Ar.fit (by omega) ?_
  have hVn : V < 4294967296 ^ (digs V).length := digs_lt (Nat.le_refl _)
  refine ⟨Nat × List Dig × List Dig, fun ⟨j, q, u⟩ => ⟨[(13, i64 ((j : Int) - 1)), (12, .own 1), (11, .own 0), (10, .sl dgE (digs V)), (9, i64 s)], [(1, dArr q), (0, dArr u)], 2, 148, 0⟩,
    fun x => x.1 ≤ nq ∧ x.2.1.length = nq ∧ x.2.2.length = (digs U).length + 1 ∧ val (x.2.2.drop x.1) < V ∧ U = V * (4294967296 ^ x.1 * val (x.2.1.drop x.1)) + val x.2.2, fun x => x.1,
    (nq, List.replicate nq 0, digs U ++ [0]), ?_, ?_, ?_⟩
  · refine ⟨Nat.le_refl _, by simp, hll, ?_, ?_⟩
    · dsimp only
      have hz : val (digs U ++ [0]) = U := by rw [val_snoc, val_digs]; rfl
      rw [val_drop, hz]
      have h1 := digs_lt (n := U) (Nat.le_refl _)
      have h2 := digs_ge hV0
      refine Nat.lt_of_lt_of_le ?_ h2
      rw [Nat.div_lt_iff_lt_mul (pow_pos' _), ← Nat.pow_add]
      refine Nat.lt_of_lt_of_le h1 (Nat.pow_le_pow_right (by decide) (by omega))
    · dsimp only
      rw [val_drop_out (by simp), Nat.mul_zero, Nat.mul_zero, val_snoc, val_digs]; show U = 0 + (U + _ * 0); omega
  · exact sub_of [(0, some 0), (1, some 1)] rfl rfl rfl ⟨congrArg (fun n => some (i64 n)) (by simp only [List.length_replicate]; omega), rfl, rfl, rfl, rfl, trivial⟩ ⟨congrArg (fun n => some (dArr (List.replicate n 0))) (by omega), rfl, trivial⟩
  rintro ⟨j, q, u⟩ ⟨g1, g2, g3, g4, g5⟩
  dsimp only at g1 g2 g3 g4 g5
  refine Br.mk (fun k1 => ?_) (fun k1 => ?_)
  · obtain ⟨k, rfl⟩ : ∃ k, j = k + 1 := ⟨j - 1, by omega⟩
    rw [show (((k + 1 : Nat) : Int) - 1) = k by omega]
    obtain ⟨r1, r2, r3, r4⟩ := dm_round (k := k) (n := (digs V).length) (by omega) (by omega) hVn g4 g5
    intro hl9
    refine Ar.fit (by omega) ?_
    refine Ar.fit (by omega) ?_
    refine Sl.win (Ob.mk (by omega) ?_)
    have htl : (u.take k).length = k := by rw [List.length_take]; omega
    rw [show (((k + 1 : Nat) : Int) - 1 + ((digs V).length : Int) + 1 - (((k + 1 : Nat) : Int) - 1)) = (((u.drop k).take ((digs V).length + 1)).length : Nat) by rw [r1]; omega,
      show (((k + 1 : Nat) : Int) - 1) = ((u.take k).length : Nat) by omega]
    have hW : (u.drop ((u.take k).length : Int).toNat).take (((u.drop k).take ((digs V).length + 1)).length : Int).toNat = (u.drop k).take ((digs V).length + 1) := by
      rw [Int.toNat_natCast, Int.toNat_natCast, r1, htl]
    obtain ⟨post, hpost⟩ : ∃ post, u.drop (k + (digs V).length + 1) = post := ⟨_, rfl⟩
    obtain ⟨pre, hpre⟩ : ∃ pre, u.take k = pre := ⟨_, rfl⟩
    rw [hpost, hpre] at r3 r4
    rw [hpre] at htl hW
    rw [hpre]
    obtain ⟨hgc, _, _⟩ := guessN_ok (U := (u.drop k).take ((digs V).length + 1)) (V := digs V) r1 (by omega) hvt (by rw [val_digs]; exact r2)
    rw [val_digs] at hgc
    have cg := n_guess ((u.drop k).take ((digs V).length + 1)) (digs V) (by omega) r1 (by omega) hvt (by rw [val_digs]; exact r2)
    generalize guessN ((u.drop k).take ((digs V).length + 1)) (digs V) = g at hgc cg
    rw [← hW] at cg
    refine CallV.to _ cg rfl ?_
    clear cg hW
    generalize (u.drop k).take ((digs V).length + 1) = W at *
    have hD : val W / V < 4294967296 := by rw [Nat.div_lt_iff_lt_mul (by omega)]; exact r2
    have hpn : 4294967296 ^ ((digs V).length + 1) = 4294967296 ^ (digs V).length * 4294967296 := Nat.pow_succ ..
    obtain ⟨m1, m2, m3⟩ := dm_mend (Bn := 4294967296 ^ ((digs V).length + 1)) hgc (Nat.pos_of_ne_zero hV0) (by omega)
    have hmod := Nat.mod_lt (val W) (Nat.pos_of_ne_zero hV0)
    have ct := n_take pre W post (digs V) g r1 (by omega)
    rw [← r3, val_digs] at ct
    have htw : takeW W (digs V) g = padDigs ((digs V).length + 1) (if val W < g * V then val W % V + 4294967296 ^ ((digs V).length + 1) - V else val W % V) := by
      unfold takeW; rw [val_digs, r1, m1]
    rw [htw] at ct
    clear htw m1
    refine CallV.hand 0 _ _ _ rfl ct (dArr_flat _) (dArr_flat _) rfl rfl ?_
    clear ct hgc
    generalize val W / V = D at *
    generalize val W % V = R at *
    have hul2 : u.length = pre.length + (W.length + post.length) := by rw [r3]; simp
    refine Br.mk (fun k2 => ?_) (fun k2 => ?_)
    · have hg := m2 k2
      rw [if_pos k2]
      refine Ar.fit (by omega) ?_
      intro hl10
      obtain ⟨w0, hw0⟩ : ∃ w0, padDigs ((digs V).length + 1) (R + 4294967296 ^ ((digs V).length + 1) - V) = w0 := ⟨_, rfl⟩
      have hw0l : w0.length = (digs V).length + 1 := by rw [← hw0, padDigs_len]
      have hw0v : val w0 = R + 4294967296 ^ ((digs V).length + 1) - V := by rw [← hw0]; exact val_pad (by omega)
      rw [hw0]
      refine ⟨Nat × List Dig × Nat, fun ⟨i, w, c⟩ => ⟨[(105, i64 i), (104, i64 (digs V).length), (103, .sl dgE (digs V)), (16, u64 c), (15, u64 ((g : Int) - 1)), (14, .win 0 1 (pre.length : Nat) (W.length : Nat)), (13, i64 (pre.length : Nat)), (12, .own 1), (11, .own 0), (10, .sl dgE (digs V)), (9, i64 s)],
          [(1, dArr q), (0, dArr (pre ++ (w ++ post)))], 2, 148, 0⟩,
        fun x => x.1 ≤ (digs V).length ∧ x.2.1.length = (digs V).length + 1 ∧ x.2.2 ≤ 1 ∧ (∀ j, x.1 ≤ j → dig x.2.1 j = dig w0 j) ∧ val (x.2.1.take x.1) + 4294967296 ^ x.1 * x.2.2 = val (w0.take x.1) + val ((digs V).take x.1),
        fun x => (digs V).length - x.1, (0, w0, 0), ?_, ?_, ?_⟩
      · exact ⟨Nat.zero_le _, hw0l, Nat.zero_le _, fun _ _ => rfl, by simp [val]⟩
      · exact sub_of [(0, some 0), (1, some 1)] rfl rfl rfl ⟨rfl, rfl, rfl, rfl, rfl, rfl, congrArg (fun n => some (i64 n)) (by omega), rfl, rfl, rfl, rfl, trivial⟩ ⟨rfl, rfl, trivial⟩
      rintro ⟨i, w, c⟩ ⟨f1, f2, f3, f4, f5⟩
      dsimp only at f1 f2 f3 f4 f5
      have hlw : (pre ++ (w ++ post)).length = pre.length + (digs V).length + 1 + post.length := by simp [f2]; omega
      refine Br.mk (fun k3 => ?_) (fun k3 => ?_)
      · refine Ob.mk (by omega) ?_
        intro y hy
        have hy : (digs V)[i]? = some y := hy
        have dy := dig_some hy
        have hyl := y.isLt
        refine Ob.mk ⟨by omega, by omega, by omega⟩ ?_
        refine Ob.mk (by rw [hlw]; omega) ?_
        intro z hz
        have hz : w[i]? = some z := by rw [← get_mid (pre := pre) (post := post) (by omega), ← hz]; congr 1
        have dz := dig_some hz
        have hzl := z.isLt
        refine Ar.fit (by omega) ?_
        refine Ar.fit (by omega) ?_
        refine Ar.fit (by omega) ?_
        refine Ar.fit (by omega) ?_
        refine Ar.wrap ?_
        refine Ob.mk ⟨by omega, by omega, by omega⟩ ?_
        refine Ob.mk (by rw [hlw]; omega) ?_
        intro z' hz'
        refine ⟨dof (c + (z.val + y.val)), congrArg (fun n => [u32 n]) (by rw [dofW rfl]; simp), ?_⟩
        refine Ob.mk (by decide) ?_
        refine Ar.fit (by omega) ?_
        refine ⟨(i + 1, w.set i (dof (c + (z.val + y.val))), (c + (z.val + y.val)) / 4294967296), ⟨by dsimp only; omega, by simp [f2], by dsimp only; omega, fun j hj => ?_, ?_⟩,
          sub_of [(0, some 0), (1, some 1)] rfl rfl rfl ⟨rfl, rfl, rfl, congrArg (fun n => some (u64 n)) (by simp only [Int.reducePow]; omega), rfl, rfl, rfl, rfl, rfl, rfl, rfl, trivial⟩
            ⟨rfl, congrArg (fun l => some (dArr l)) (by rw [← set_mid (by omega)]; congr 1), trivial⟩, by dsimp only; omega⟩
        · dsimp only at hj ⊢
          rw [dig_set, if_neg (by omega)]; exact f4 j (by omega)
        · dsimp only
          rw [val_take_succ, val_take_succ, val_take_succ, Nat.pow_succ, dy, dig_set, if_pos ⟨rfl, by omega⟩, dof_val, ← f4 i (Nat.le_refl _), dz]
          have ht : (w.set i (dof (c + (z.val + y.val)))).take i = w.take i := by rw [List.take_set_of_le (by omega)]
          rw [ht]
          have hd := Nat.div_add_mod (c + (z.val + y.val)) 4294967296
          exact dm_add f5 hd
      · have hi : i = (digs V).length := by omega
        subst hi
        intro hl11
        refine Ob.mk ⟨by omega, by omega, by omega⟩ ?_
        refine Ob.mk (by rw [hlw]; omega) ?_
        intro z hz
        have hz : w[(digs V).length]? = some z := by rw [← get_mid (pre := pre) (post := post) (by omega), ← hz]; congr 1
        have dz := dig_some hz
        have hzl := z.isLt
        refine Ar.fit (by omega) ?_
        refine Ar.wrap ?_
        refine Ob.mk ⟨by omega, by omega, by omega⟩ ?_
        refine Ob.mk (by rw [hlw]; omega) ?_
        intro z' hz'
        refine ⟨dof (z.val + c), congrArg (fun n => [u32 n]) (by rw [dofW rfl]; simp), ?_⟩
        have hw2 : w.set (digs V).length (dof (z.val + c)) = padDigs ((digs V).length + 1) R := by
          rw [← pad_val (w.set _ _), List.length_set, f2]
          congr 1
          have e1 := val_split w0 (digs V).length
          have e3 := val_drop_cons w0 (digs V).length
          rw [val_drop_out (show w0.length ≤ (digs V).length + 1 by omega), Nat.mul_zero, Nat.add_zero] at e3
          rw [e3, hw0v, hpn, ← f4 _ (Nat.le_refl _), dz] at e1
          rw [val_take_all (Nat.le_refl (digs V).length), val_digs] at f5
          have g2 := val_split (w.set (digs V).length (dof (z.val + c))) (digs V).length
          have g3 := val_drop_cons (w.set (digs V).length (dof (z.val + c))) (digs V).length
          have g0 : val ((w.set (digs V).length (dof (z.val + c))).drop ((digs V).length + 1)) = 0 := val_drop_out (by rw [List.length_set]; omega)
          rw [g0, Nat.mul_zero, Nat.add_zero, dig_set, if_pos ⟨rfl, by omega⟩, dof_val] at g3
          rw [g3, List.take_set_of_le (Nat.le_refl _)] at g2
          rw [g2]
          obtain ⟨n1, n2⟩ := dm_wrap (R := R) (val_take_lt w (digs V).length) hzl f3 (by rw [Nat.mul_add]; omega)
          rw [n1, n2]; rfl
        have hset : (pre ++ (w ++ post)).set (pre.length + (digs V).length) (dof (z.val + c)) = pre ++ (padDigs ((digs V).length + 1) R ++ post) := by
          rw [set_mid (by omega), hw2]
        obtain ⟨e1, e2⟩ := r4 _ rfl (dof D) (by rw [dof_val, Nat.mod_eq_of_lt hD])
        refine Ar.fit (by omega) ?_
        refine Ob.mk (by omega) ?_
        refine Ob.mk (by omega) ?_
        intro z2 hz2
        refine ⟨dof D, congrArg (fun n => [u32 n]) (by rw [dof_val, Nat.mod_eq_of_lt hD]; omega), ?_⟩
        refine Ar.fit (by omega) ?_
        refine ⟨(k, q.set k (dof D), pre ++ (padDigs ((digs V).length + 1) R ++ post)), ⟨by dsimp only; omega, by simp [g2], by simp [padDigs_len]; omega, e1, e2⟩,
          sub_of [(0, some 0), (1, some 1)] rfl rfl rfl ⟨congrArg (fun n => some (i64 n)) (by omega), rfl, rfl, rfl, rfl, trivial⟩ ⟨congrArg (fun n => some (dArr (q.set n _))) (by omega), congrArg (fun l => some (dArr l)) (by rw [← hset]; congr 1), trivial⟩, by dsimp only; omega⟩
    · have hg := m3 k2
      rw [if_neg k2]
      obtain ⟨e1, e2⟩ := r4 _ rfl (dof D) (by rw [dof_val, Nat.mod_eq_of_lt hD])
      refine Ar.fit (by omega) ?_
      refine Ob.mk (by omega) ?_
      refine Ob.mk (by omega) ?_
      intro z2 hz2
      refine ⟨dof D, congrArg (fun n => [u32 n]) (by rw [dof_val, Nat.mod_eq_of_lt hD]; omega), ?_⟩
      refine Ar.fit (by omega) ?_
      refine ⟨(k, q.set k (dof D), pre ++ (padDigs ((digs V).length + 1) R ++ post)), ⟨by dsimp only; omega, by simp [g2], by simp [padDigs_len]; omega, e1, e2⟩,
        sub_of [(0, some 0), (1, some 1)] rfl rfl rfl ⟨congrArg (fun n => some (i64 n)) (by omega), rfl, rfl, rfl, rfl, trivial⟩ ⟨congrArg (fun n => some (dArr (q.set n _))) (by omega), rfl, trivial⟩, by dsimp only; omega⟩
  · have hj : j = 0 := by omega
    subst hj
    rw [List.drop_zero] at g4 g5
    rw [Nat.pow_zero, Nat.one_mul] at g5
    refine CallV.see 1 _ (n_shortS _ (by omega)) rfl rfl rfl ?_
    refine Ar.fit (by omega) ?_
    refine CallV.see 0 _ (n_shrS u s (by omega) (by omega)) rfl rfl rfl ?_
    have e1 : val q = U / V := by
      rw [g5, Nat.mul_add_div (by omega), Nat.div_eq_of_lt g4, Nat.add_zero]
    have e2 : val u = U % V := by
      rw [g5, Nat.mul_add_mod, Nat.mod_eq_of_lt g4]
    exact LE_tup (.cons (LE_sl (by rw [e1])) (.cons (LE_sl (by rw [e2])) (.cons .refl .nil)))

end Go.Gs
/- Natural numbers, the program's: greatest common divisor; the quotient by zero. -/
namespace Go.Gs
open Go.Proofs

theorem n_divmod0 (a b : List Dig) (ha : a.length ≤ 400000000) (hb : b.length ≤ 400000000) (hb0 : val b = 0) :
    CallsG Tryz.prog 236 [.sl dgE a, .sl dgE b] [] (.tup [.sl dgE [], .sl dgE [], i64 9]) [] := by
  refine calls_to tok mix Tryz.func236 rfl rfl rfl ?_
  refine CallV.to _ (n_shortS _ (by omega)) rfl ?_
  refine CallV.to _ (n_shortS _ (by omega)) rfl ?_
  rw [hb0, digs_zero]
  intro hl
  refine Br.mk (fun h => ?_) (fun h => absurd rfl h)
  exact LE_tup (.cons LE_nil0 (.cons LE_nil0 (.cons .refl .nil)))

set_option maxRecDepth 100000 in
theorem n_gcd (a b : List Dig) (ha : a.length ≤ 400000000) (hb : b.length ≤ 400000000) :
    CallsG Tryz.prog 234 [.sl dgE a, .sl dgE b] [] (.sl dgE (digs (Nat.gcd (val a) (val b)))) [] := by
  refine calls_to tok mix Tryz.func234 rfl rfl rfl ?_
  refine CallV.to _ (n_normalize _ (by omega)) rfl ?_
  refine CallV.to _ (n_normalize _ (by omega)) rfl ?_
  have hla := digs_val_len a
  have hlb := digs_val_len b
  refine ⟨Nat × Nat, fun ⟨A, B⟩ => ⟨[(0, .sl dgE (digs A)), (1, .sl dgE (digs B))], [], 0, 25, 0⟩,
    fun x => (digs x.1).length ≤ 400000000 ∧ (digs x.2).length ≤ 400000000 ∧ Nat.gcd x.1 x.2 = Nat.gcd (val a) (val b), fun x => x.2, (val a, val b), ?_, ?_, ?_⟩
  · exact ⟨by dsimp only; omega, by dsimp only; omega, rfl⟩
  · exact sub_of [] rfl rfl rfl ⟨rfl, rfl, trivial⟩ trivial
  rintro ⟨A, B⟩ ⟨h1, h2, h3⟩
  dsimp only at h1 h2 h3
  intro hl
  refine Br.mk (fun k => ?_) (fun k => ?_)
  · have hB : B ≠ 0 := digs_len_pos.1 (by omega)
    refine CallV.to _ (n_divmod (digs A) (digs B) (by omega) (by omega) (by rw [val_digs]; exact hB)) rfl ?_
    rw [val_digs, val_digs]
    have hm := Nat.mod_lt A (Nat.pos_of_ne_zero hB)
    refine ⟨(B, A % B), ⟨h2, Nat.le_trans (digs_mono (Nat.le_of_lt hm)) h2, ?_⟩, sub_of [] rfl rfl rfl ⟨rfl, rfl, trivial⟩ trivial, hm⟩
    dsimp only
    rw [← h3, Nat.gcd_comm B, Nat.gcd_comm A B, Nat.gcd_rec B A]
  · have hB : B = 0 := digs_nil.1 (List.length_eq_zero_iff.1 (by omega))
    subst hB
    rw [Nat.gcd_zero_right] at h3
    exact LE_sl (by rw [h3])

end Go.Gs
/- Integers, the program's. -/
namespace Go.Gs
open Go.Proofs

theorem z_new (p : Prop) [i : Decidable p] (m : List Dig) (hm : m.length ≤ 1000000000) :
    CallsG Tryz.prog 168 [.pr p i, .sl dgE m] [] (.agg (biE (ofZ (if p then -(val m : Int) else val m)))) [] := by
  refine calls_to tok mix Tryz.func168 rfl rfl rfl ?_
  refine CallV.to _ (n_normalize m hm) rfl ?_
  have hd := digs_len_pos (n := val m)
  refine Br.mk (fun h => ?_) (fun h => ?_)
  · intro hl
    refine LE_agg (.cons (LE_pr ?_) (.cons (LE_sl ?_) .nil))
    · rw [ofZ_neg, if_pos h]; omega
    · rw [ofZ_mag, if_pos h]; congr 1; omega
  · refine LE_agg (.cons (LE_false ?_) (.cons (LE_sl ?_) .nil))
    · rw [ofZ_neg, if_neg h]; omega
    · rw [ofZ_mag, if_neg h]; congr 1
theorem z_newT (m : List Dig) (hm : m.length ≤ 1000000000) : CallsG Tryz.prog 168 [bl true, .sl dgE m] [] (.agg (biE (ofZ (-(val m : Int))))) [] := by
  have h := (z_new True m hm).args (.cons (LE_true trivial) LEs.refl)
  rwa [if_pos trivial] at h
theorem z_newF (m : List Dig) (hm : m.length ≤ 1000000000) : CallsG Tryz.prog 168 [bl false, .sl dgE m] [] (.agg (biE (ofZ (val m : Int)))) [] := by
  have h := (z_new False m hm).args (.cons (LE_false not_false) LEs.refl)
  rwa [if_neg not_false] at h
theorem z_newv (a : BI) (hm : a.mag.length ≤ 1000000000) :
    CallsG Tryz.prog 168 [pr (a.neg = true), .sl dgE a.mag] [] (.agg (biE (ofZ a.v))) [] := z_new (a.neg = true) a.mag hm

theorem z_fromint (n : Int) (hn : R64 n) : CallsG Tryz.prog 114 [i64 n] [] (.agg (biE (ofZ n))) [] := by
  refine calls_to tok mix Tryz.func114 rfl rfl rfl ?_
  refine Br.mk (fun h => ?_) (fun h => ?_)
  · refine Ar.wrap ?_
    refine Ar.wrap ?_
    have e : IntKind.u64.wrap (-IntKind.u64.wrap n) = ((n.natAbs : Nat) : Int) := by rw [wrap64, wrap64]; omega
    rw [e]
    refine CallV.to _ (n_fromU64 n.natAbs (by omega)) rfl ?_
    refine CallV.to _ (z_newT (digs n.natAbs) (by have := zlen_i64 hn; unfold zlen at this; omega)) rfl ?_
    rw [val_digs, show (-(n.natAbs : Int)) = n by omega]
    exact .refl
  · refine Ar.wrap ?_
    have e : IntKind.u64.wrap n = ((n.natAbs : Nat) : Int) := by rw [wrap64]; omega
    rw [e]
    refine CallV.to _ (n_fromU64 n.natAbs (by omega)) rfl ?_
    refine CallV.to _ (z_newF (digs n.natAbs) (by have := zlen_i64 hn; unfold zlen at this; omega)) rfl ?_
    rw [val_digs, show (n.natAbs : Int) = n by omega]
    exact .refl

theorem z_sign (a : BI) (ha : a.mag.length ≤ 900000000) : CallsG Tryz.prog 237 [.agg (biE a)] [] (i64 a.v.sign) [] := by
  refine calls_to tok mix Tryz.func237 rfl rfl rfl ?_
  refine CallV.to _ (n_bitlen a.mag ha) rfl ?_
  have h1 := nbits_pos (n := val a.mag)
  have h2 := a.v_eq
  refine Br.mk (fun h => ?_) (fun h => ?_)
  · have : a.v = 0 := by omega
    exact LE_int (by rw [this]; rfl)
  refine Br.mk (fun h3 => ?_) (fun h3 => ?_)
  · refine LE_int (Int.sign_eq_neg_one_of_neg ?_).symm
    rcases h2 with ⟨e1, e2⟩ | ⟨e1, e2⟩
    · omega
    · rw [e1] at h3; cases h3
  · refine LE_int (Int.sign_eq_one_of_pos ?_).symm
    rcases h2 with ⟨e1, e2⟩ | ⟨e1, e2⟩
    · exact absurd e1 h3
    · omega

theorem z_neg (a : BI) (ha : a.mag.length ≤ 1000000000) : CallsG Tryz.prog 192 [.agg (biE a)] [] (.agg (biE (ofZ (-a.v)))) [] := by
  refine calls_to tok mix Tryz.func192 rfl rfl rfl ?_
  refine CallV.to _ (z_new (¬ a.neg = true) a.mag ha) rfl ?_
  have : (if ¬ a.neg = true then -(val a.mag : Int) else (val a.mag : Int)) = -a.v := by
    rcases a.v_eq with ⟨h1, h2⟩ | ⟨h1, h2⟩ <;> simp [h1, h2]
  rw [this]
  exact .refl

theorem z_add (a b : BI) (ha : a.mag.length ≤ 800000000) (hb : b.mag.length ≤ 800000000) : CallsG Tryz.prog 172 [.agg (biE a), .agg (biE b)] [] (.agg (biE (ofZ (a.v + b.v)))) [] := by
  refine calls_to tok mix Tryz.func172 rfl rfl rfl ?_
  refine Br.mk (fun h => ?_) (fun h => ?_)
  · refine Dr.mk (by decide +kernel) ?_
    refine CallV.to _ (n_add a.mag b.mag (by omega) (by omega)) rfl ?_
    have hl := dadd_len ha hb
    refine CallV.to _ (z_new (a.neg = true) _ (by omega)) rfl ?_
    have : (if a.neg = true then -(val (digs (val a.mag + val b.mag)) : Int) else (val (digs (val a.mag + val b.mag)) : Int)) = a.v + b.v := by
      rw [val_digs]
      rcases a.v_eq with ⟨h1, h2⟩ | ⟨h1, h2⟩ <;> rcases b.v_eq with ⟨h3, h4⟩ | ⟨h3, h4⟩ <;> simp [h1, h3] at h <;> simp [h1, h2, h4] <;> omega
    rw [this]
    exact .refl
  · refine CallV.to _ (n_sub a.mag b.mag (by omega) (by omega)) rfl ?_
    have hl : (digs (val a.mag - val b.mag)).length ≤ 1000000000 := Nat.le_trans (digs_mono (Nat.sub_le _ _)) (Nat.le_trans (digs_val_len _) (by omega))
    have hl2 : (digs (val b.mag - val a.mag)).length ≤ 1000000000 := Nat.le_trans (digs_mono (Nat.sub_le _ _)) (Nat.le_trans (digs_val_len _) (by omega))
    refine Br.mk (fun h2 => ?_) (fun h2 => ?_)
    · refine CallV.to _ (z_new (a.neg = true) _ hl) rfl ?_
      have : (if a.neg = true then -(val (digs (val a.mag - val b.mag)) : Int) else (val (digs (val a.mag - val b.mag)) : Int)) = a.v + b.v := by
        rw [val_digs]
        rcases a.v_eq with ⟨h1, h2⟩ | ⟨h1, h2⟩ <;> rcases b.v_eq with ⟨h3, h4⟩ | ⟨h3, h4⟩ <;> simp [h1, h3] at h <;> simp [h1, h2, h4] <;> omega
      rw [this]
      exact .refl
    · refine CallV.to _ (n_sub b.mag a.mag (by omega) (by omega)) rfl ?_
      refine CallV.to _ (z_new (b.neg = true) _ hl2) rfl ?_
      have : (if b.neg = true then -(val (digs (val b.mag - val a.mag)) : Int) else (val (digs (val b.mag - val a.mag)) : Int)) = a.v + b.v := by
        rw [val_digs]
        rcases a.v_eq with ⟨h1, h2⟩ | ⟨h1, h2⟩ <;> rcases b.v_eq with ⟨h3, h4⟩ | ⟨h3, h4⟩ <;> simp [h1, h3] at h <;> simp [h3, h2, h4] <;> omega
      rw [this]
      exact .refl

theorem ofZ_len (z : Int) : (ofZ z).mag.length = zlen z := rfl
theorem z_sub (a b : BI) (ha : a.mag.length ≤ 800000000) (hb : b.mag.length ≤ 800000000) : CallsG Tryz.prog 243 [.agg (biE a), .agg (biE b)] [] (.agg (biE (ofZ (a.v - b.v)))) [] := by
  refine calls_to tok mix Tryz.func243 rfl rfl rfl ?_
  refine Dr.mk (by decide +kernel) ?_
  refine CallV.to _ (z_neg b (by omega)) rfl ?_
  have h1 := zlen_v b
  refine CallV.to _ (z_add a (ofZ (-b.v)) (by omega) (by rw [ofZ_len, zlen_neg]; omega)) rfl ?_
  rw [ofZ_v, ← Int.sub_eq_add_neg]
  exact .refl

theorem z_mul (a b : BI) (ha : a.mag.length ≤ 400000000) (hb : b.mag.length ≤ 400000000) : CallsG Tryz.prog 191 [.agg (biE a), .agg (biE b)] [] (.agg (biE (ofZ (a.v * b.v)))) [] := by
  refine calls_to tok mix Tryz.func191 rfl rfl rfl ?_
  refine Dr.mk (by decide +kernel) ?_
  refine CallV.to _ (n_mul a.mag b.mag ha hb) rfl ?_
  have hl : (digs (val a.mag * val b.mag)).length ≤ 1000000000 := by
    refine Nat.le_trans (digs_len (k := a.mag.length + b.mag.length) ?_) (by omega)
    rw [Nat.pow_add]; exact Nat.mul_lt_mul_of_lt_of_lt (val_lt _) (val_lt _)
  refine CallV.to _ (z_new (¬ (a.neg = true ↔ b.neg = true)) _ hl) rfl ?_
  rw [val_digs, v_mul]
  exact .refl

theorem z_bitlen (a : BI) (ha : a.mag.length ≤ 900000000) : CallsG Tryz.prog 240 [.agg (biE a)] [] (i64 (nbits a.v.natAbs)) [] := by
  refine calls_to tok mix Tryz.func240 rfl rfl rfl ?_
  refine CallV.to _ (n_bitlen a.mag ha) rfl ?_
  rw [← a.v_abs]
  exact .refl

end Go.Gs
/- Integers, the program's: quotient and remainder, rounded down; to an int. -/
namespace Go.Gs
open Go.Proofs

/-- The quotient, rounded down, of which only the digits are divided. -/
theorem zdiv_abs {a b : Int} (hb : 0 < b) : a / b = if a < 0 then -((a.natAbs / b.natAbs + (if a.natAbs % b.natAbs = 0 then 0 else 1) : Nat) : Int) else ((a.natAbs / b.natAbs : Nat) : Int) := by
  have hdm := Nat.div_add_mod a.natAbs b.natAbs
  have hm := Nat.mod_lt a.natAbs (show b.natAbs > 0 by omega)
  generalize a.natAbs / b.natAbs = q at *
  generalize a.natAbs % b.natAbs = r at *
  have e : (b : Int) * (q : Int) = ((b.natAbs * q : Nat) : Int) := by rw [Int.natCast_mul]; congr 1; omega
  by_cases h : a < 0
  · rw [if_pos h]
    by_cases h0 : r = 0
    · rw [if_pos h0, Nat.add_zero]
      exact ((Int.ediv_emod_unique hb).2 ⟨(by rw [Int.mul_neg, e]; omega : (0 : Int) + b * (-(q : Int)) = a), by omega, hb⟩).1
    · rw [if_neg h0]
      exact ((Int.ediv_emod_unique hb (r := b - r)).2 ⟨by rw [Int.mul_neg, Int.natCast_add, Int.mul_add, e]; omega, by omega, by omega⟩).1
  · rw [if_neg h]
    exact ((Int.ediv_emod_unique hb (r := r)).2 ⟨by rw [e]; omega, by omega, by omega⟩).1

theorem z_signed (p : Prop) [i : Decidable p] : CallsG Tryz.prog 290 [.pr p i] [] (.fn 305 [.loc 0 0]) [(0, .box 4 [.pr p i])] := by
  refine calls_own tok mix Tryz.func290 rfl rfl rfl ?_
  exact ⟨some 0, take_fn (.cons (.loc 0 0 rfl) .nil), rfl, rfl⟩
theorem z_signed1 (p : Prop) [i : Decidable p] (m : List Dig) (hm : m.length ≤ 1000000000) :
    CallsG Tryz.prog 305 [.sl dgE m, .ptr [.pr p i]] [] (.agg (biE (ofZ (if p then -(val m : Int) else val m)))) [] := by
  refine calls_to tok mix Tryz.func305 rfl rfl rfl ?_
  refine CallV.to _ (z_new p m hm) rfl ?_
  exact .refl

theorem z_divmod (a b : BI) (ha : a.mag.length ≤ 200000000) (hb : b.mag.length ≤ 200000000) (h0 : 0 < b.v) :
    CallsG Tryz.prog 245 [.agg (biE a), .agg (biE b)] [] (.tup [.agg (biE (ofZ (a.v / b.v))), .agg (biE (ofZ (a.v % b.v))), i64 0]) [] := by
  refine calls_to tok mix Tryz.func245 rfl rfl rfl ?_
  refine Dr.mk (by decide +kernel) ?_
  refine CallV.to _ (z_newv a (by omega)) rfl ?_
  refine CallV.to _ (z_newv b (by omega)) rfl ?_
  have la := zlen_v a
  have lb := zlen_v b
  refine CallV.to _ (n_divmod (digs a.v.natAbs) (digs b.v.natAbs) (by unfold zlen at la; omega) (by unfold zlen at lb; omega) (by rw [val_digs]; omega)) rfl ?_
  rw [val_digs, val_digs]
  refine Br.mk (fun h => absurd rfl h) (fun _ => ?_)
  have hza := ofZ_neg a.v
  have hzb := ofZ_neg b.v
  have hq := zdiv_abs (a := a.v) h0
  have hm := Int.emod_def a.v b.v
  have zq : zlen (a.v / b.v) ≤ zlen a.v := zlen_mono (by
    have := Int.natAbs_ediv_le_natAbs a.v b.v
    exact this)
  have zp := zlen_mul (a.v / b.v) b.v
  have neg1 : a.v < 0 → ¬ ((ofZ a.v).neg = true ↔ (ofZ b.v).neg = true) := fun h => by rw [hza, hzb]; omega
  have neg2 : ¬ a.v < 0 → ¬ ¬ ((ofZ a.v).neg = true ↔ (ofZ b.v).neg = true) := fun h => by rw [hza, hzb]; omega
  have q1 : (digs (a.v.natAbs / b.v.natAbs)).length ≤ 200000000 := Nat.le_trans (digs_mono (Nat.div_le_self _ _)) (by unfold zlen at la; omega)
  refine Br.mk (fun h1 => ?_) (fun h1 => ?_)
  · have hneg : a.v < 0 := Classical.byContradiction fun h => neg2 h h1
    intro hl
    refine Br.mk (fun h2 => ?_) (fun h2 => ?_)
    · have hr : a.v.natAbs % b.v.natAbs ≠ 0 := digs_len_pos.1 (by omega)
      refine CallV.to _ (n_fromU64 1 (by decide)) rfl ?_
      refine CallV.to _ (n_add _ _ (by omega) (by decide +kernel)) rfl ?_
      rw [val_digs, val_digs]
      rw [if_pos hneg, if_neg hr] at hq
      have ql := dadd_len (a := digs (a.v.natAbs / b.v.natAbs)) (b := digs 1) q1 (by decide +kernel)
      rw [val_digs, val_digs] at ql
      refine CallV.fresh _ _ (z_signed (¬ ((ofZ a.v).neg = true ↔ (ofZ b.v).neg = true))) rfl rfl (.inr rfl) ?_
      refine CallV.to _ (z_signed1 _ (digs (a.v.natAbs / b.v.natAbs + 1)) (by omega)) rfl ?_
      rw [val_digs, if_pos h1, ← hq]
      refine Dr.mk (by decide +kernel) ?_
      refine CallV.to _ (z_mul (ofZ (a.v / b.v)) (ofZ b.v) (by rw [ofZ_len]; omega) (by rw [ofZ_len]; omega)) rfl ?_
      refine CallV.to _ (z_sub (ofZ a.v) (ofZ ((ofZ (a.v / b.v)).v * (ofZ b.v).v)) (by rw [ofZ_len]; omega) (by rw [ofZ_len, ofZ_v, ofZ_v]; omega)) rfl ?_
      rw [ofZ_v, ofZ_v, ofZ_v, ofZ_v, Int.mul_comm (a.v / b.v), ← hm]
      exact .refl
    · have hr : a.v.natAbs % b.v.natAbs = 0 := digs_nil.1 (List.length_eq_zero_iff.1 (by omega))
      rw [if_pos hneg, if_pos hr, Nat.add_zero] at hq
      refine CallV.fresh _ _ (z_signed (¬ ((ofZ a.v).neg = true ↔ (ofZ b.v).neg = true))) rfl rfl (.inr rfl) ?_
      refine CallV.to _ (z_signed1 _ (digs (a.v.natAbs / b.v.natAbs)) (by omega)) rfl ?_
      rw [val_digs, if_pos h1, ← hq]
      refine Dr.mk (by decide +kernel) ?_
      refine CallV.to _ (z_mul (ofZ (a.v / b.v)) (ofZ b.v) (by rw [ofZ_len]; omega) (by rw [ofZ_len]; omega)) rfl ?_
      refine CallV.to _ (z_sub (ofZ a.v) (ofZ ((ofZ (a.v / b.v)).v * (ofZ b.v).v)) (by rw [ofZ_len]; omega) (by rw [ofZ_len, ofZ_v, ofZ_v]; omega)) rfl ?_
      rw [ofZ_v, ofZ_v, ofZ_v, ofZ_v, Int.mul_comm (a.v / b.v), ← hm]
      exact .refl
  · have hneg : ¬ a.v < 0 := fun h => h1 (neg1 h)
    rw [if_neg hneg] at hq
    refine CallV.fresh _ _ (z_signed (¬ ((ofZ a.v).neg = true ↔ (ofZ b.v).neg = true))) rfl rfl (.inr rfl) ?_
    refine CallV.to _ (z_signed1 _ (digs (a.v.natAbs / b.v.natAbs)) (by omega)) rfl ?_
    rw [val_digs, if_neg h1, ← hq]
    refine Dr.mk (by decide +kernel) ?_
    refine CallV.to _ (z_mul (ofZ (a.v / b.v)) (ofZ b.v) (by rw [ofZ_len]; omega) (by rw [ofZ_len]; omega)) rfl ?_
    refine CallV.to _ (z_sub (ofZ a.v) (ofZ ((ofZ (a.v / b.v)).v * (ofZ b.v).v)) (by rw [ofZ_len]; omega) (by rw [ofZ_len, ofZ_v, ofZ_v]; omega)) rfl ?_
    rw [ofZ_v, ofZ_v, ofZ_v, ofZ_v, Int.mul_comm (a.v / b.v), ← hm]
    exact .refl

end Go.Gs
/- The other text's natural numbers and integers: what rationals need. -/
namespace Go.Gs
open Go.Proofs

set_option maxRecDepth 100000 in
theorem r1_gcd (a b : List Dig) (ha : a.length ≤ 400000000) (hb : b.length ≤ 400000000) :
    CallsG Tryz.prog 225 [.sl dgE a, .sl dgE b] [] (.sl dgE (digs (Nat.gcd (val a) (val b)))) [] := by
  refine calls_to tok mix Tryz.func225 rfl rfl rfl ?_
  refine CallV.to _ (r1_normalizeP _ (by omega)) rfl ?_
  refine CallV.to _ (r1_normalizeP _ (by omega)) rfl ?_
  have hla := digs_val_len a
  have hlb := digs_val_len b
  refine ⟨Nat × Nat, fun ⟨A, B⟩ => ⟨[(5, .sl dgE (digs A)), (6, .sl dgE (digs B))], [], 0, 27, 0⟩,
    fun x => (digs x.1).length ≤ 400000000 ∧ (digs x.2).length ≤ 400000000 ∧ Nat.gcd x.1 x.2 = Nat.gcd (val a) (val b), fun x => x.2, (val a, val b), ?_, ?_, ?_⟩
  · exact ⟨by dsimp only; omega, by dsimp only; omega, rfl⟩
  · exact sub_of [] rfl rfl rfl ⟨rfl, rfl, trivial⟩ trivial
  rintro ⟨A, B⟩ ⟨h1, h2, h3⟩
  dsimp only at h1 h2 h3
  intro hl
  refine Br.mk (fun k => ?_) (fun k => ?_)
  · have hB : B ≠ 0 := digs_len_pos.1 (by omega)
    refine CallV.to _ (r1_divmod (digs A) (digs B) (by omega) (by omega) (by rw [val_digs]; exact hB)) rfl ?_
    rw [val_digs, val_digs]
    have hm := Nat.mod_lt A (Nat.pos_of_ne_zero hB)
    refine ⟨(B, A % B), ⟨h2, Nat.le_trans (digs_mono (Nat.le_of_lt hm)) h2, ?_⟩, sub_of [] rfl rfl rfl ⟨rfl, rfl, trivial⟩ trivial, hm⟩
    dsimp only
    rw [← h3, Nat.gcd_comm B, Nat.gcd_comm A B, Nat.gcd_rec B A]
  · have hB : B = 0 := digs_nil.1 (List.length_eq_zero_iff.1 (by omega))
    subst hB
    rw [Nat.gcd_zero_right] at h3
    exact LE_sl (by rw [h3])

theorem r2_newF (m : List Dig) (hm : m.length ≤ 1000000000) : CallsG Tryz.prog 104 [bl false, .sl dgE m] [] (.agg (biE (ofZ (val m)))) [] := by
  have := (r2_new False m hm).args (.cons (LE_false id) (.cons .refl .nil))
  rwa [if_neg id] at this
theorem r2_neg (a : BI) (hm : a.mag.length ≤ 1000000000) : CallsG Tryz.prog 226 [.agg (biE a)] [] (.agg (biE (ofZ (-a.v)))) [] := by
  refine calls_to tok mix Tryz.func226 rfl rfl rfl ?_
  refine CallV.to _ (r2_new (¬ a.neg = true) a.mag hm) rfl ?_
  have : (if ¬ a.neg = true then -(val a.mag : Int) else (val a.mag : Int)) = -a.v := by
    rcases a.v_eq with ⟨h1, h2⟩ | ⟨h1, h2⟩ <;> simp [h1, h2]
  rw [this]
  exact .refl

theorem r2_add (a b : BI) (ha : a.mag.length ≤ 800000000) (hb : b.mag.length ≤ 800000000) : CallsG Tryz.prog 259 [.agg (biE a), .agg (biE b)] [] (.agg (biE (ofZ (a.v + b.v)))) [] := by
  refine calls_to tok mix Tryz.func259 rfl rfl rfl ?_
  refine Br.mk (fun h => ?_) (fun h => ?_)
  · refine Dr.mk (by decide +kernel) ?_
    refine CallV.to _ (r1_addP a.mag b.mag (by omega) (by omega)) rfl ?_
    have hl := dadd_len ha hb
    refine CallV.to _ (r2_new (a.neg = true) _ (by omega)) rfl ?_
    have : (if a.neg = true then -(val (digs (val a.mag + val b.mag)) : Int) else (val (digs (val a.mag + val b.mag)) : Int)) = a.v + b.v := by
      rw [val_digs]
      rcases a.v_eq with ⟨h1, h2⟩ | ⟨h1, h2⟩ <;> rcases b.v_eq with ⟨h3, h4⟩ | ⟨h3, h4⟩ <;> simp [h1, h3] at h <;> simp [h1, h2, h4] <;> omega
    rw [this]
    exact .refl
  · refine CallV.to _ (r1_subP a.mag b.mag (by omega) (by omega)) rfl ?_
    have hl : (digs (val a.mag - val b.mag)).length ≤ 1000000000 := Nat.le_trans (digs_mono (Nat.sub_le _ _)) (Nat.le_trans (digs_val_len _) (by omega))
    have hl2 : (digs (val b.mag - val a.mag)).length ≤ 1000000000 := Nat.le_trans (digs_mono (Nat.sub_le _ _)) (Nat.le_trans (digs_val_len _) (by omega))
    refine Br.mk (fun h2 => ?_) (fun h2 => ?_)
    · refine CallV.to _ (r2_new (a.neg = true) _ hl) rfl ?_
      have : (if a.neg = true then -(val (digs (val a.mag - val b.mag)) : Int) else (val (digs (val a.mag - val b.mag)) : Int)) = a.v + b.v := by
        rw [val_digs]
        rcases a.v_eq with ⟨h1, h2⟩ | ⟨h1, h2⟩ <;> rcases b.v_eq with ⟨h3, h4⟩ | ⟨h3, h4⟩ <;> simp [h1, h3] at h <;> simp [h1, h2, h4] <;> omega
      rw [this]
      exact .refl
    · refine CallV.to _ (r1_subP b.mag a.mag (by omega) (by omega)) rfl ?_
      refine CallV.to _ (r2_new (b.neg = true) _ hl2) rfl ?_
      have : (if b.neg = true then -(val (digs (val b.mag - val a.mag)) : Int) else (val (digs (val b.mag - val a.mag)) : Int)) = a.v + b.v := by
        rw [val_digs]
        rcases a.v_eq with ⟨h1, h2⟩ | ⟨h1, h2⟩ <;> rcases b.v_eq with ⟨h3, h4⟩ | ⟨h3, h4⟩ <;> simp [h1, h3] at h <;> simp [h3, h2, h4] <;> omega
      rw [this]
      exact .refl
theorem r2_sub (a b : BI) (ha : a.mag.length ≤ 800000000) (hb : b.mag.length ≤ 800000000) : CallsG Tryz.prog 274 [.agg (biE a), .agg (biE b)] [] (.agg (biE (ofZ (a.v - b.v)))) [] := by
  refine calls_to tok mix Tryz.func274 rfl rfl rfl ?_
  refine Dr.mk (by decide +kernel) ?_
  refine CallV.to _ (r2_neg b (by omega)) rfl ?_
  have h1 := zlen_v b
  refine CallV.to _ (r2_add a (ofZ (-b.v)) (by omega) (by rw [ofZ_len, zlen_neg]; omega)) rfl ?_
  rw [ofZ_v, ← Int.sub_eq_add_neg]
  exact .refl
theorem r2_bitlen (a : BI) (ha : a.mag.length ≤ 900000000) : CallsG Tryz.prog 297 [.agg (biE a)] [] (i64 (nbits a.v.natAbs)) [] := by
  refine calls_to tok mix Tryz.func297 rfl rfl rfl ?_
  refine CallV.to _ (r1_bitlen a.mag ha) rfl ?_
  rw [BI.v_abs]
  exact .refl

theorem negdiv {A B : Nat} (hB : 0 < B) : (A % B = 0 → -(A : Int) / B = -((A / B : Nat) : Int) ∧ -(A : Int) % B = -((A % B : Nat) : Int)) ∧ (A % B ≠ 0 → -(A : Int) / B = -((A / B : Nat) : Int) - 1 ∧ -(A : Int) % B = -((A % B : Nat) : Int) + B) := by
  have hdm := Nat.div_add_mod A B
  have hm := Nat.mod_lt A hB
  generalize A / B = q at *
  generalize A % B = r at *
  have e : (B : Int) * (q : Int) = ((B * q : Nat) : Int) := (Int.natCast_mul _ _).symm
  have hB' : (0 : Int) < B := by omega
  refine ⟨fun h => (Int.ediv_emod_unique hB').2 ⟨?_, by omega, by omega⟩, fun h => (Int.ediv_emod_unique hB').2 ⟨?_, by omega, by omega⟩⟩
  · rw [Int.mul_neg, e]; omega
  · rw [Int.mul_sub, Int.mul_neg, e, Int.mul_one]; omega

theorem r2_divmod (a b : BI) (ha : a.mag.length ≤ 200000000) (hb : b.mag.length ≤ 200000000) (h0 : 0 < b.v) :
    CallsG Tryz.prog 227 [.agg (biE a), .agg (biE b)] [] (.tup [.agg (biE (ofZ (a.v / b.v))), .agg (biE (ofZ (a.v % b.v))), i64 0]) [] := by
  have hbv : b.neg = false ∧ b.v = (val b.mag : Int) := by
    rcases b.v_eq with ⟨h1, h2⟩ | h
    · omega
    · exact h
  have hB : 0 < val b.mag := by omega
  have q1 : (digs (val a.mag / val b.mag)).length ≤ 200000000 := Nat.le_trans (digs_mono (Nat.div_le_self _ _)) (Nat.le_trans (digs_val_len _) ha)
  have r1 : (digs (val a.mag % val b.mag)).length ≤ 200000000 := Nat.le_trans (digs_mono (Nat.mod_le _ _)) (Nat.le_trans (digs_val_len _) ha)
  have nb : ¬ b.neg = true := by rw [hbv.1]; decide
  refine calls_to tok mix Tryz.func227 rfl rfl rfl ?_
  refine CallV.to _ (r2_sign b (by omega)) rfl ?_
  refine Br.mk (fun h => absurd (Int.sign_eq_zero_iff_zero.1 h) (by omega)) (fun _ => ?_)
  refine CallV.to _ (r1_divmod a.mag b.mag (by omega) (by omega) (by omega)) rfl ?_
  refine CallV.to _ (r2_new (¬ (a.neg = true ↔ b.neg = true)) _ (by omega)) rfl ?_
  refine CallV.to _ (r2_new (a.neg = true) _ (by omega)) rfl ?_
  rw [val_digs, val_digs]
  rcases a.v_eq with ⟨h1, h2⟩ | ⟨h1, h2⟩
  · have pa : ¬ (a.neg = true ↔ b.neg = true) := by rw [h1, hbv.1]; decide
    rw [if_pos pa, if_pos h1]
    refine Br.mk (fun h3 => ?_) (fun h3 => absurd pa h3)
    have nd := negdiv (A := val a.mag) hB
    rw [← h2, ← hbv.2] at nd
    have k1 : zlen (-((val a.mag / val b.mag : Nat) : Int)) ≤ 200000000 := by rw [zlen_neg]; exact q1
    have k2 : zlen (-((val a.mag % val b.mag : Nat) : Int)) ≤ 200000000 := by rw [zlen_neg]; exact r1
    refine CallV.to _ (r2_sign (ofZ (-((val a.mag % val b.mag : Nat) : Int))) (by rw [ofZ_len]; omega)) rfl ?_
    rw [ofZ_v]
    refine Br.mk (fun h4 => ?_) (fun h4 => ?_)
    · have hr : val a.mag % val b.mag ≠ 0 := fun h => h4 (by rw [h]; rfl)
      refine Dr.mk (by decide +kernel) ?_
      refine CallV.to _ (r2_fromint 1 (by decide)) rfl ?_
      refine CallV.to _ (r2_sub (ofZ (-((val a.mag / val b.mag : Nat) : Int))) (ofZ 1) (by rw [ofZ_len]; omega) (by decide +kernel)) rfl ?_
      refine CallV.to _ (r2_add (ofZ (-((val a.mag % val b.mag : Nat) : Int))) b (by rw [ofZ_len]; omega) (by omega)) rfl ?_
      rw [ofZ_v, ofZ_v, ofZ_v, (nd.2 hr).1, (nd.2 hr).2]
      exact .refl
    · have hr : val a.mag % val b.mag = 0 := by
        have : (-((val a.mag % val b.mag : Nat) : Int)) = 0 := Int.sign_eq_zero_iff_zero.1 (Decidable.not_not.1 h4)
        omega
      refine Dr.dyn (Ob.mk (by decide +kernel) ?_)
      refine Ob.mk (by kernel_rfl) ?_
      rw [← (nd.1 hr).1, ← (nd.1 hr).2]
      exact .refl
  · have pa : ¬ ¬ (a.neg = true ↔ b.neg = true) := by rw [h1, hbv.1]; decide
    have na : ¬ a.neg = true := by rw [h1]; decide
    rw [if_neg pa, if_neg na]
    refine Br.mk (fun h3 => absurd h3 pa) (fun h3 => ?_)
    refine Dr.dyn (Ob.mk (by decide +kernel) ?_)
    refine Ob.mk (by kernel_rfl) ?_
    rw [h2, hbv.2, ← Int.natCast_ediv, ← Int.natCast_emod]
    exact .refl

end Go.Gs
/- Integers, the program's: to an int. -/
namespace Go.Gs
open Go.Proofs

set_option maxRecDepth 100000 in
theorem z_toint (a : BI) (ha : a.mag.length ≤ 1000000000) :
    CallsG Tryz.prog 289 [.agg (biE a)] [] (.tup [i64 (fitI a.v), pr (-9223372036854775808 ≤ a.v ∧ a.v ≤ 9223372036854775807)]) [] := by
  refine calls_to tok mix Tryz.func289 rfl rfl rfl ?_
  refine CallV.to _ (n_normalize a.mag ha) rfl ?_
  have hl0 := digs_val_len a.mag
  have hv := a.v_eq
  generalize hz : a.v = z at *
  have hv' : z = -(val a.mag : Int) ∨ z = (val a.mag : Int) := hv.imp And.right And.right
  have bad : ¬ (-9223372036854775808 ≤ z ∧ z ≤ 9223372036854775807) → LE (.tup [i64 0, bl false]) (.tup [i64 (fitI z), pr (-9223372036854775808 ≤ z ∧ z ≤ 9223372036854775807)]) := fun h =>
    LE_tup2 (LE_int (by rw [fitI, if_neg h])) (LE_false h)
  have good : ∀ n : Int, n = z → -9223372036854775808 ≤ z ∧ z ≤ 9223372036854775807 → LE (.tup [i64 n, bl true]) (.tup [i64 (fitI z), pr (-9223372036854775808 ≤ z ∧ z ≤ 9223372036854775807)]) := fun n hn h =>
    LE_tup2 (LE_int (by rw [fitI, if_pos h, hn])) (LE_true h)
  obtain ⟨m, hm⟩ : ∃ m, digs (val a.mag) = m := ⟨_, rfl⟩
  have hmv : val m = val a.mag := by rw [← hm, val_digs]
  have hbig : 2 < m.length → 18446744073709551616 ≤ val a.mag := fun h => by
    have h0 : val a.mag ≠ 0 := digs_len_pos.1 (by rw [hm]; omega)
    have := digs_ge h0
    rw [hm] at this
    exact Nat.le_trans (Nat.le_trans (by decide) (Nat.pow_le_pow_right (by decide) (show 2 ≤ m.length - 1 by omega))) this
  rw [hm]
  rw [hm] at hl0
  intro hl1
  refine Ar.fit (by omega) ?_
  refine ⟨Nat, fun j => ⟨[(6, i64 ((j : Int) - 1)), (5, u64 (val (m.drop j))), (4, .sl dgE m), (1, .loc 0 0)], [(0, .box 39 (biE a))], 1, 55, 0⟩,
    fun j => j ≤ m.length ∧ (j < m.length → m.length ≤ 2), fun j => j, m.length, ?_, ?_, ?_⟩
  · exact ⟨Nat.le_refl _, fun h => absurd h (Nat.lt_irrefl _)⟩
  · exact sub_of [(0, some 0)] rfl rfl rfl ⟨rfl, congrArg (fun n => some (u64 n)) (by rw [val_drop_out (Nat.le_refl _)]; rfl), rfl, rfl, trivial⟩ ⟨rfl, trivial⟩
  rintro j ⟨h1, h2⟩
  refine Br.mk (fun h3 => ?_) (fun h3 => ?_)
  · intro hl2
    refine Br.mk (fun h4 => ?_) (fun h4 => ?_)
    · have hd := val_drop_cons m (j - 1)
      rw [show j - 1 + 1 = j by omega] at hd
      have hdl : val (m.drop j) < 4294967296 := by
        have := val_lt (m.drop j)
        rw [List.length_drop] at this
        exact Nat.lt_of_lt_of_le this (Nat.le_trans (Nat.pow_le_pow_right (by decide) (show m.length - j ≤ 1 by omega)) (by decide))
      refine Ob.mk (by decide) ?_
      refine Ar.fit (by simp only [Int.reducePow]; omega) ?_
      refine Ob.mk (by omega) ?_
      intro x hx
      rw [show ((j : Int) - 1).toNat = j - 1 by omega] at hx
      have dx := dig_some hx
      have hxl := x.isLt
      refine Ar.fit (by omega) ?_
      refine ⟨_, (or_shift (x := val (m.drop j)) (y := x.val) hdl hxl rfl).symm, ?_⟩
      refine Ar.fit (by omega) ?_
      exact ⟨j - 1, ⟨by omega, fun _ => by omega⟩, sub_of [(0, some 0)] rfl rfl rfl ⟨congrArg (fun n => some (i64 n)) (by omega), congrArg (fun n => some (u64 n)) (by rw [hd, dx]; omega), rfl, rfl, trivial⟩ ⟨rfl, trivial⟩, by dsimp only; omega⟩
    · intro hl3
      have := hbig (by omega)
      refine Br.mk (fun _ => ?_) (fun h => absurd h (by omega))
      exact bad (by omega)
  · have hj : j = 0 := by omega
    subst hj
    have hd0 : val (m.drop 0) = val a.mag := by rw [List.drop_zero, hmv]
    intro hl3
    have hv2 : ¬ 2 < m.length → val a.mag < 18446744073709551616 := fun h => by
      have := val_lt m
      rw [hmv] at this
      exact Nat.lt_of_lt_of_le this (Nat.le_trans (Nat.pow_le_pow_right (by decide) (show m.length ≤ 2 by omega)) (by decide))
    refine Br.mk (fun h => ?_) (fun h => ?_)
    · have := hbig (by omega)
      exact bad (by omega)
    have hs := hv2 (by omega)
    have negz : a.neg = true → z = -(val a.mag : Int) := fun h => hv.elim And.right fun g => by rw [h] at g; cases g.1
    have posz : ¬ a.neg = true → z = (val a.mag : Int) := fun h => hv.elim (fun g => absurd g.1 h) And.right
    have hneg : a.neg = true → val a.mag ≤ 9223372036854775808 → IntKind.i64.wrap (IntKind.u64.wrap (-(val (m.drop 0) : Int))) = z := fun h hle => by
      have := negz h
      rw [hd0, wrap64]
      show IntKind.i64.wrap _ = _
      simp only [IntKind.wrap, IntKind.bits, IntKind.signed]
      simp
      omega
    refine Br.mk (fun g1 => bad (by omega)) (fun g1 => ?_)
    refine Br.mk (fun g2 => ?_) (fun g2 => ?_)
    · refine Br.mk (fun g3 => bad ?_) (fun g3 => ?_)
      · have := posz g3; omega
      have hn : a.neg = true := Classical.byContradiction g3
      have := negz hn
      refine Br.mk (fun _ => ?_) (fun g4 => absurd hn g4)
      refine Ar.wrap ?_
      refine Ar.wrap ?_
      exact good _ (hneg hn (by omega)) (by omega)
    · refine Br.mk (fun g4 => ?_) (fun g4 => ?_)
      · have := negz g4
        refine Ar.wrap ?_
        refine Ar.wrap ?_
        exact good _ (hneg g4 (by omega)) (by omega)
      · have := posz g4
        refine Ar.fit (by omega) ?_
        exact good _ (by omega) (by omega)

end Go.Gs
/- Rationals as two integers. -/
namespace Go.Gs

structure BR where
  num : BI
  den : BI
  deriving DecidableEq
/-- What it stands for (nothing over zero is zero). -/
def BR.v (a : BR) : Rat := Rat.divInt a.num.v a.den.v
/-- The number in lowest terms. -/
def ofQ (q : Rat) : BR := ⟨ofZ q.num, ofZ q.den⟩
theorem ofQ_v (q : Rat) : (ofQ q).v = q := by unfold BR.v ofQ; rw [ofZ_v, ofZ_v, Rat.num_divInt_den]
def BR.len (a : BR) : Nat := max a.num.mag.length a.den.mag.length
def qlen (q : Rat) : Nat := max (zlen q.num) (zlen q.den)
theorem ofQ_len (q : Rat) : (ofQ q).len = qlen q := rfl

theorem divInt_num {n d : Int} (hd : d ≠ 0) : (if n.sign * d.sign < 0 then -((n.natAbs / Nat.gcd n.natAbs d.natAbs : Nat) : Int) else ((n.natAbs / Nat.gcd n.natAbs d.natAbs : Nat) : Int)) = (Rat.divInt n d).num := by
  have hg0 : 0 < Nat.gcd n.natAbs d.natAbs := Nat.gcd_pos_of_pos_right _ (by omega)
  rw [Rat.num_divInt, show d.gcd n = Nat.gcd n.natAbs d.natAbs from Nat.gcd_comm _ _]
  obtain ⟨k, hk⟩ : ((Nat.gcd n.natAbs d.natAbs : Nat) : Int) ∣ n := Int.ofNat_dvd_left.2 (Nat.gcd_dvd_left _ _)
  generalize Nat.gcd n.natAbs d.natAbs = g at *
  have e1 : n.natAbs / g = k.natAbs := by rw [hk, Int.natAbs_mul, Int.natAbs_natCast, Nat.mul_div_cancel_left _ hg0]
  have e2 : d.sign * n / (g : Int) = d.sign * k := by
    rw [hk, ← Int.mul_assoc, Int.mul_comm d.sign, Int.mul_assoc, Int.mul_ediv_cancel_left _ (by omega)]
  have e3 : n.sign = k.sign := by rw [hk, Int.sign_mul, Int.sign_eq_one_of_pos (by omega), Int.one_mul]
  rw [e1, e2, e3]
  rcases Int.lt_trichotomy d 0 with h | h | h
  · rw [Int.sign_eq_neg_one_of_neg h]
    rcases Int.lt_trichotomy k 0 with h' | h' | h'
    · rw [Int.sign_eq_neg_one_of_neg h', if_neg (by decide)]; omega
    · subst h'; rw [if_neg (by decide)]; rfl
    · rw [Int.sign_eq_one_of_pos h', if_pos (by decide)]; omega
  · exact absurd h hd
  · rw [Int.sign_eq_one_of_pos h]
    rcases Int.lt_trichotomy k 0 with h' | h' | h'
    · rw [Int.sign_eq_neg_one_of_neg h', if_pos (by decide)]; omega
    · subst h'; rw [if_neg (by decide)]; rfl
    · rw [Int.sign_eq_one_of_pos h', if_neg (by decide)]; omega
theorem divInt_den {n d : Int} (hd : d ≠ 0) : (Rat.divInt n d).den = d.natAbs / Nat.gcd n.natAbs d.natAbs := by
  rw [Rat.den_divInt, if_neg hd, show d.gcd n = Nat.gcd n.natAbs d.natAbs from Nat.gcd_comm _ _]
theorem qlen_divInt {n d : Int} (hd : d ≠ 0) : qlen (Rat.divInt n d) ≤ max (zlen n) (zlen d) := by
  have h1 : zlen (Rat.divInt n d).num ≤ zlen n := zlen_mono (by
    rw [← divInt_num hd]
    have := Nat.div_le_self n.natAbs (Nat.gcd n.natAbs d.natAbs)
    generalize n.natAbs / Nat.gcd n.natAbs d.natAbs = x at *
    split <;> omega)
  have h2 : zlen (Rat.divInt n d).den ≤ zlen d := zlen_mono (by
    rw [divInt_den hd]
    have := Nat.div_le_self d.natAbs (Nat.gcd n.natAbs d.natAbs)
    generalize d.natAbs / Nat.gcd n.natAbs d.natAbs = x at *
    omega)
  unfold qlen; omega
theorem qlen_num (q : Rat) : zlen q.num ≤ qlen q := Nat.le_max_left _ _
theorem qlen_den (q : Rat) : zlen q.den ≤ qlen q := Nat.le_max_right _ _
theorem qlen_v (a : BR) : qlen a.v ≤ max a.len 1 := by
  by_cases h : a.den.v = 0
  · have : a.v = 0 := by unfold BR.v; rw [h, Rat.divInt_zero]
    rw [this]
    have : qlen 0 ≤ 1 := by decide +kernel
    omega
  · have := qlen_divInt (n := a.num.v) h
    have h1 := zlen_v a.num
    have h2 := zlen_v a.den
    unfold BR.len BR.v; omega
theorem den_ne (q : Rat) : (q.den : Int) ≠ 0 := by have := q.den_nz; omega
theorem q_add_eq (x y : Rat) : Rat.divInt (x.num * y.den + y.num * x.den) (x.den * y.den) = x + y := by
  have := Rat.divInt_add_divInt x.num y.num (den_ne x) (den_ne y)
  rw [Rat.num_divInt_den, Rat.num_divInt_den] at this
  exact this.symm
theorem q_mul_eq (x y : Rat) : Rat.divInt (x.num * y.num) (x.den * y.den) = x * y := by
  have := Rat.divInt_mul_divInt x.num y.num (d₁ := x.den) (d₂ := y.den)
  rw [Rat.num_divInt_den, Rat.num_divInt_den] at this
  exact this.symm
theorem q_sub_eq (x y : Rat) : Rat.divInt (x.num * y.den - y.num * x.den) (x.den * y.den) = x - y := by
  have := Rat.divInt_add_divInt x.num (-y.num) (den_ne x) (den_ne y)
  rw [Rat.num_divInt_den, ← Rat.neg_divInt, Rat.num_divInt_den, Int.neg_mul, ← Int.sub_eq_add_neg] at this
  rw [← this, Rat.sub_eq_add_neg]
theorem den_mul_ne (x y : Rat) : (x.den : Int) * (y.den : Int) ≠ 0 := Int.mul_ne_zero (den_ne x) (den_ne y)
theorem qlen_add (x y : Rat) : qlen (x + y) ≤ qlen x + qlen y + 1 := by
  rw [← q_add_eq]
  have h := qlen_divInt (n := x.num * y.den + y.num * x.den) (den_mul_ne x y)
  have h1 := zlen_add (x.num * y.den) (y.num * x.den)
  have h2 := zlen_mul x.num y.den
  have h3 := zlen_mul y.num x.den
  have h4 := zlen_mul x.den y.den
  have a1 := qlen_num x
  have a2 := qlen_num y
  have a3 := qlen_den x
  have a4 := qlen_den y
  omega
theorem qlen_mul (x y : Rat) : qlen (x * y) ≤ qlen x + qlen y := by
  rw [← q_mul_eq]
  have h := qlen_divInt (n := x.num * y.num) (den_mul_ne x y)
  have h2 := zlen_mul x.num y.num
  have h4 := zlen_mul x.den y.den
  have a1 := qlen_num x
  have a2 := qlen_num y
  have a3 := qlen_den x
  have a4 := qlen_den y
  omega
theorem qlen_int (z : Int) : qlen z ≤ max (zlen z) 1 := by
  unfold qlen
  rw [Rat.num_intCast, Rat.den_intCast]
  have : zlen ((1 : Nat) : Int) = 1 := by decide +kernel
  omega

end Go.Gs
/- Rationals, the program's. -/
namespace Go.Gs
open Go.Proofs

def brE (a : BR) : List SV := biE a.num ++ biE a.den

theorem q_lowest1 (a : BI) (g : List Dig) (ha : a.mag.length ≤ 400000000) (hg : g.length ≤ 400000000) (h0 : val g ≠ 0) :
    CallsG Tryz.prog 235 [.agg (biE a), .ptr [.sl dgE g]] [] (.sl dgE (digs (val a.mag / val g))) [] := by
  refine calls_to tok mix Tryz.func235 rfl rfl rfl ?_
  refine CallV.to _ (n_divmod a.mag g ha hg h0) rfl ?_
  exact .refl

theorem q_lowest (n d : BI) (hn : n.mag.length ≤ 400000000) (hd : d.mag.length ≤ 400000000) (h0 : d.v ≠ 0) :
    CallsG Tryz.prog 171 [.agg (biE n), .agg (biE d)] [] (.agg (brE (ofQ (Rat.divInt n.v d.v)))) [] := by
  refine calls_to tok mix Tryz.func171 rfl rfl rfl ?_
  refine CallV.to _ (n_gcd n.mag d.mag hn hd) rfl ?_
  have e1 := divInt_num (n := n.v) h0
  have e2 := divInt_den (n := n.v) h0
  rw [n.v_abs, d.v_abs] at e1 e2
  have hdz : val d.mag ≠ 0 := by rw [← d.v_abs]; omega
  have hg0 : 0 < Nat.gcd (val n.mag) (val d.mag) := Nat.gcd_pos_of_pos_right _ (by omega)
  have hgl : (digs (Nat.gcd (val n.mag) (val d.mag))).length ≤ 400000000 := by
    refine Nat.le_trans (digs_mono (Nat.gcd_le_right _ (by omega))) (Nat.le_trans (digs_val_len _) hd)
  have l1 : (digs (val n.mag / Nat.gcd (val n.mag) (val d.mag))).length ≤ 1000000000 := Nat.le_trans (digs_mono (Nat.div_le_self _ _)) (Nat.le_trans (digs_val_len _) (by omega))
  have l2 : (digs (val d.mag / Nat.gcd (val n.mag) (val d.mag))).length ≤ 1000000000 := Nat.le_trans (digs_mono (Nat.div_le_self _ _)) (Nat.le_trans (digs_val_len _) (by omega))
  generalize Nat.gcd (val n.mag) (val d.mag) = g at *
  have s1 : -1 ≤ n.v.sign * d.v.sign ∧ n.v.sign * d.v.sign ≤ 1 := by
    rcases Int.lt_trichotomy n.v 0 with h | h | h <;> rcases Int.lt_trichotomy d.v 0 with h' | h' | h' <;>
      simp [Int.sign_eq_neg_one_of_neg, Int.sign_eq_one_of_pos, h, h']
  refine Dr.mk (by decide +kernel) ?_
  refine CallV.to _ (z_sign n (by omega)) rfl ?_
  refine CallV.to _ (z_sign d (by omega)) rfl ?_
  refine Ar.fit (by omega) ?_
  refine CallV.to _ (q_lowest1 n (digs g) hn hgl (by rw [val_digs]; omega)) rfl ?_
  rw [val_digs]
  refine CallV.to _ (z_new (n.v.sign * d.v.sign < 0) _ l1) rfl ?_
  refine CallV.to _ (q_lowest1 d (digs g) hd hgl (by rw [val_digs]; omega)) rfl ?_
  refine CallV.to _ (z_newF _ (by rw [val_digs]; exact l2)) rfl ?_
  rw [val_digs, val_digs, val_digs, e1, ← e2]
  exact .refl

end Go.Gs
/- Rationals, the program's: arithmetic. -/
namespace Go.Gs
open Go.Proofs

theorem q_new (n d : BI) (hn : n.mag.length ≤ 400000000) (hd : d.mag.length ≤ 400000000) (h0 : d.v ≠ 0) :
    CallsG Tryz.prog 190 [.agg (biE n), .agg (biE d)] [] (.tup [.agg (brE (ofQ (Rat.divInt n.v d.v))), i64 0]) [] := by
  refine calls_to tok mix Tryz.func190 rfl rfl rfl ?_
  refine CallV.to _ (z_sign d (by omega)) rfl ?_
  refine Br.mk (fun h => absurd (Int.sign_eq_zero_iff_zero.1 h) h0) (fun _ => ?_)
  refine CallV.to _ (q_lowest n d hn hd h0) rfl ?_
  exact LE_tup2 .refl .refl
theorem q_new0 (n d : BI) (hd : d.mag.length ≤ 400000000) (h0 : d.v = 0) :
    CallsG Tryz.prog 190 [.agg (biE n), .agg (biE d)] [] (.tup [.agg [bl false, .sl dgE [], bl false, .sl dgE []], i64 9]) [] := by
  refine calls_to tok mix Tryz.func190 rfl rfl rfl ?_
  refine CallV.to _ (z_sign d (by omega)) rfl ?_
  rw [h0]
  refine Br.mk (fun _ => ?_) (fun h => absurd rfl h)
  exact LE_tup2 (LE_agg (.cons .refl (.cons LE_nil0 (.cons .refl (.cons LE_nil0 .nil))))) .refl

theorem q_fromint (n : Int) (hn : R64 n) : CallsG Tryz.prog 84 [i64 n] [] (.agg (brE (ofQ (n : Rat)))) [] := by
  refine calls_to tok mix Tryz.func84 rfl rfl rfl ?_
  refine CallV.to _ (z_fromint n hn) rfl ?_
  refine CallV.to _ (z_fromint 1 (by decide)) rfl ?_
  have e : ofQ (n : Rat) = ⟨ofZ n, ofZ 1⟩ := by unfold ofQ; rw [Rat.num_intCast, Rat.den_intCast]; rfl
  rw [e]
  exact .refl

theorem q_fromints (n d : Int) (hn : R64 n) (hd : R64 d) (h0 : d ≠ 0) : CallsG Tryz.prog 340 [i64 n, i64 d] [] (.tup [.agg (brE (ofQ (Rat.divInt n d))), i64 0]) [] := by
  refine calls_to tok mix Tryz.func340 rfl rfl rfl ?_
  have l1 := zlen_i64 hn
  have l2 := zlen_i64 hd
  refine CallV.to _ (z_fromint n hn) rfl ?_
  refine CallV.to _ (z_fromint d hd) rfl ?_
  refine CallV.to _ (q_new (ofZ n) (ofZ d) (by rw [ofZ_len]; omega) (by rw [ofZ_len]; omega) (by rw [ofZ_v]; exact h0)) rfl ?_
  rw [ofZ_v, ofZ_v]
  exact LE_tup2 .refl .refl

theorem q_normalize (a : BR) (ha : a.len ≤ 400000000) : CallsG Tryz.prog 189 [.agg (brE a)] [] (.agg (brE (ofQ a.v))) [] := by
  have h1 : a.num.mag.length ≤ a.len := Nat.le_max_left _ _
  have h2 : a.den.mag.length ≤ a.len := Nat.le_max_right _ _
  refine calls_to tok mix Tryz.func189 rfl rfl rfl ?_
  by_cases h : a.den.v = 0
  · refine CallV.to _ (q_new0 a.num a.den (by omega) h) rfl ?_
    refine Br.mk (fun _ => ?_) (fun h => absurd (by decide) h)
    refine CallV.to _ (q_fromint 0 (by decide)) rfl ?_
    have e : a.v = ((0 : Int) : Rat) := by unfold BR.v; rw [h, Rat.divInt_zero]; rfl
    rw [e]
    exact .refl
  · refine CallV.to _ (q_new a.num a.den (by omega) (by omega) h) rfl ?_
    refine Br.mk (fun h => absurd rfl h) (fun _ => ?_)
    exact .refl

theorem ofQ_l (q : Rat) : (ofQ q).num.mag.length ≤ qlen q ∧ (ofQ q).den.mag.length ≤ qlen q := ⟨qlen_num q, qlen_den q⟩
theorem ofQ_num (q : Rat) : (ofQ q).num.v = q.num := ofZ_v _
theorem ofQ_den (q : Rat) : (ofQ q).den.v = q.den := ofZ_v _

theorem q_cross (a b : BR) (ha : a.len ≤ 100000000) (hb : b.len ≤ 100000000) : CallsG Tryz.prog 170 [.agg (brE a), .agg (brE b)] []
    (.tup [.agg (biE (ofZ (a.v.num * b.v.den))), .agg (biE (ofZ (b.v.num * a.v.den))), .agg (biE (ofZ (a.v.den * b.v.den)))]) [] := by
  have h1 := qlen_v a
  have h2 := qlen_v b
  have h3 := ofQ_l a.v
  have h4 := ofQ_l b.v
  refine calls_to tok mix Tryz.func170 rfl rfl rfl ?_
  refine Dr.mk (by decide +kernel) ?_
  refine CallV.to _ (q_normalize a (by omega)) rfl ?_
  refine CallV.to _ (q_normalize b (by omega)) rfl ?_
  refine Dr.mk (by decide +kernel) ?_
  refine CallV.to _ (z_mul (ofQ a.v).num (ofQ b.v).den (by omega) (by omega)) rfl ?_
  refine CallV.to _ (z_mul (ofQ b.v).num (ofQ a.v).den (by omega) (by omega)) rfl ?_
  refine CallV.to _ (z_mul (ofQ a.v).den (ofQ b.v).den (by omega) (by omega)) rfl ?_
  rw [ofQ_num, ofQ_num, ofQ_den, ofQ_den]
  exact .refl

theorem q_add (a b : BR) (ha : a.len ≤ 50000000) (hb : b.len ≤ 50000000) : CallsG Tryz.prog 115 [.agg (brE a), .agg (brE b)] [] (.agg (brE (ofQ (a.v + b.v)))) [] := by
  have h1 := qlen_v a
  have h2 := qlen_v b
  have n1 := qlen_num a.v
  have n2 := qlen_num b.v
  have d1 := qlen_den a.v
  have d2 := qlen_den b.v
  have m1 := zlen_mul a.v.num b.v.den
  have m2 := zlen_mul b.v.num a.v.den
  have m3 := zlen_mul a.v.den b.v.den
  have m4 := zlen_add (a.v.num * b.v.den) (b.v.num * a.v.den)
  refine calls_to tok mix Tryz.func115 rfl rfl rfl ?_
  refine CallV.to _ (q_cross a b (by omega) (by omega)) rfl ?_
  refine Dr.mk (by decide +kernel) ?_
  refine CallV.to _ (z_add (ofZ (a.v.num * b.v.den)) (ofZ (b.v.num * a.v.den)) (by rw [ofZ_len]; omega) (by rw [ofZ_len]; omega)) rfl ?_
  rw [ofZ_v, ofZ_v]
  refine CallV.to _ (q_lowest (ofZ (a.v.num * b.v.den + b.v.num * a.v.den)) (ofZ (a.v.den * b.v.den)) (by rw [ofZ_len]; omega) (by rw [ofZ_len]; omega) (by rw [ofZ_v]; exact den_mul_ne _ _)) rfl ?_
  rw [ofZ_v, ofZ_v, q_add_eq]
  exact .refl

theorem q_mul (a b : BR) (ha : a.len ≤ 50000000) (hb : b.len ≤ 50000000) : CallsG Tryz.prog 173 [.agg (brE a), .agg (brE b)] [] (.agg (brE (ofQ (a.v * b.v)))) [] := by
  have h1 := qlen_v a
  have h2 := qlen_v b
  have h3 := ofQ_l a.v
  have h4 := ofQ_l b.v
  have n1 := qlen_num a.v
  have n2 := qlen_num b.v
  have d1 := qlen_den a.v
  have d2 := qlen_den b.v
  have m1 := zlen_mul a.v.num b.v.num
  have m3 := zlen_mul a.v.den b.v.den
  refine calls_to tok mix Tryz.func173 rfl rfl rfl ?_
  refine Dr.mk (by decide +kernel) ?_
  refine CallV.to _ (q_normalize a (by omega)) rfl ?_
  refine CallV.to _ (q_normalize b (by omega)) rfl ?_
  refine Dr.mk (by decide +kernel) ?_
  refine CallV.to _ (z_mul (ofQ a.v).num (ofQ b.v).num (by omega) (by omega)) rfl ?_
  refine CallV.to _ (z_mul (ofQ a.v).den (ofQ b.v).den (by omega) (by omega)) rfl ?_
  rw [ofQ_num, ofQ_num, ofQ_den, ofQ_den]
  refine CallV.to _ (q_lowest (ofZ (a.v.num * b.v.num)) (ofZ (a.v.den * b.v.den)) (by rw [ofZ_len]; omega) (by rw [ofZ_len]; omega) (by rw [ofZ_v]; exact den_mul_ne _ _)) rfl ?_
  rw [ofZ_v, ofZ_v, q_mul_eq]
  exact .refl

theorem q_floor (a : BR) (ha : a.len ≤ 100000000) : CallsG Tryz.prog 184 [.agg (brE a)] [] (.agg (biE (ofZ a.v.floor))) [] := by
  have h1 := qlen_v a
  have h3 := ofQ_l a.v
  have h0 := a.v.den_nz
  refine calls_to tok mix Tryz.func184 rfl rfl rfl ?_
  refine CallV.to _ (q_normalize a (by omega)) rfl ?_
  refine CallV.to _ (z_divmod (ofQ a.v).num (ofQ a.v).den (by omega) (by omega) (by rw [ofQ_den]; omega)) rfl ?_
  rw [ofQ_num, ofQ_den, ← Rat.floor_def]
  exact .refl

def qbits (q : Rat) : Nat := max (nbits q.num.natAbs) (nbits q.den)
theorem q_bitlen (a : BR) (ha : a.len ≤ 100000000) : CallsG Tryz.prog 175 [.agg (brE a)] [] (i64 (qbits a.v)) [] := by
  have h1 := qlen_v a
  have h3 := ofQ_l a.v
  refine calls_to tok mix Tryz.func175 rfl rfl rfl ?_
  refine CallV.to _ (q_normalize a (by omega)) rfl ?_
  refine Dr.mk (by decide +kernel) ?_
  refine CallV.to _ (z_bitlen (ofQ a.v).num (by omega)) rfl ?_
  refine CallV.to _ (z_bitlen (ofQ a.v).den (by omega)) rfl ?_
  rw [ofQ_num, ofQ_den, Int.natAbs_natCast]
  refine LE_int ?_
  unfold qbits
  simp only [maxL]
  omega

end Go.Gs
