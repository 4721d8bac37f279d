/- Natural numbers, the other text: digits, comparing, sums, differences, products by one digit. -/
import Derived.Test.YtjfbljononkmcaaGreatIT0
import Derived.Test.YtjfbljononkmcaaGreatNum
import Derived.Lib.Mul64
namespace Go.Gs
open Go.Proofs

def dgE (d : Dig) : List SV := [.val (.int .u32 (d.val : Int))]
abbrev u32 (n : Int) : SV := .val (.int .u32 n)
abbrev u64 (n : Int) : SV := .val (.int .u64 n)
/-- A row of digits of one's own. -/
abbrev dArr (xs : List Dig) : Mem := .arr 79 dgE 1 xs
theorem dArr_flat (xs : List Dig) : flatM (dArr xs) := fun _ _ => rfl
theorem dArr_scalar (xs : List Dig) : scalarM (dArr xs) := fun _ _ => rfl
theorem wrap32 (e : Int) : IntKind.u32.wrap e = e % 4294967296 := rfl
theorem wrap64 (e : Int) : IntKind.u64.wrap e = e % 18446744073709551616 := rfl
theorem dgE_len : ∀ x : Dig, (dgE x).length = 1 := fun _ => rfl
theorem dgE_eq {d : Dig} {e : Int} (h : (d.val : Int) = e) : [u32 e] = dgE d := by rw [← h]; rfl
theorem dOne (d : Dig) : [d].length = 1 ∧ 1 ≤ 281474976710656 ∧ 1 * 1 ≤ 16777216 ∧ 0 < 1 ∧ ∀ x ∈ [d], (dgE x).length = 1 ∧ cellsB (dgE x) = true ∧ flat.flats (dgE x) = true :=
  ⟨rfl, by decide, by decide, by decide, fun _ _ => ⟨rfl, rfl, rfl⟩⟩
theorem dNone : ([] : List Dig).length = 0 ∧ 0 ≤ 281474976710656 ∧ 0 * 1 ≤ 16777216 ∧ 0 < 1 ∧ ∀ x ∈ ([] : List Dig), (dgE x).length = 1 ∧ cellsB (dgE x) = true ∧ flat.flats (dgE x) = true :=
  ⟨rfl, by decide, by decide, by decide, fun _ _ => ⟨rfl, rfl, rfl⟩⟩
theorem dApp {xs ys : List Dig} (h : xs.length + ys.length ≤ 2000000000) : ((xs.length + ys.length : Int) * (4 : Nat) ≤ 140737488355328 ∧ xs.length + ys.length ≤ 281474976710656 ∧ 0 < 1 ∧ ∀ x ∈ ys, (dgE x).length = 1) :=
  ⟨by omega, by omega, by decide, fun _ _ => rfl⟩

/-- Which of the two is greater. -/
def cmpN (a b : Nat) : Int := if a < b then -1 else if b < a then 1 else 0

theorem cmpN_lt {a b : Nat} : cmpN a b < 0 ↔ a < b := by
  unfold cmpN; split
  · simp_all
  · split <;> simp_all
theorem cmpN_gt {a b : Nat} : 0 < cmpN a b ↔ b < a := by
  unfold cmpN; split
  · simp; omega
  · split <;> simp_all
theorem cmpN_eq {a b : Nat} : cmpN a b = 0 ↔ a = b := by
  unfold cmpN; split
  · simp; omega
  · split
    · simp; omega
    · simp; omega

theorem r1_normalize (a : List Dig) (ha : a.length ≤ 1000000000) : CallsG Tryz.prog 83 [.sl dgE a] [] (.own 0) [(0, dArr (digs (val a)))] := by
  refine calls_own tok mix Tryz.func83 rfl rfl rfl ?_
  intro hl0
  refine ⟨Nat, fun n => ⟨[(3, i64 n), (0, .sl dgE a)], [], 0, 34, 0⟩, fun n => n ≤ a.length ∧ ∀ i, n ≤ i → dig a i = 0, fun n => n, a.length, ?_, ?_, ?_⟩
  · exact ⟨Nat.le_refl _, fun i h => dig_out h⟩
  · exact sub_of [] rfl rfl rfl ⟨rfl, rfl, trivial⟩ trivial
  rintro n ⟨h1, h2⟩
  have post : ∀ (n : Nat), n ≤ a.length → (∀ i, n ≤ i → dig a i = 0) → (n = 0 ∨ dig a (n - 1) ≠ 0) → digs (val a) = a.take n := fun n h1 h2 h3 => (normd_take h3 h1 h2).symm
  refine Br.mk (fun h3 => ?_) (fun h3 => ?_)
  · refine Ar.fit (by omega) ?_
    refine Ob.mk (by omega) ?_
    intro x hx
    refine Br.mk (fun h4 => ?_) (fun h4 => ?_)
    · refine Ar.fit (by omega) ?_
      refine ⟨n - 1, ⟨by omega, fun i hi => ?_⟩, sub_of [] rfl rfl rfl ⟨congrArg (fun n => some (i64 n)) (by omega), rfl, trivial⟩ trivial, by dsimp only; omega⟩
      by_cases e : i = n - 1
      · subst e
        rw [show ((n : Int) - 1).toNat = n - 1 by omega] at hx
        rw [dig_some hx]; omega
      · exact h2 i (by omega)
    · have h5 : dig a (n - 1) ≠ 0 := by
        rw [show ((n : Int) - 1).toNat = n - 1 by omega] at hx
        rw [dig_some hx]; omega
      rw [post n h1 h2 (.inr h5)]
      refine ⟨Dig, dgE, [], rfl, Ob.mk dNone ?_⟩
      refine ⟨Nat, fun i => ⟨[(5, i64 i), (3, i64 n), (4, .own 0), (0, .sl dgE a)], [(0, dArr (a.take i))], 1, 34, 0⟩, fun i => i ≤ n, fun i => n - i, 0, ?_, ?_, ?_⟩
      · exact Nat.zero_le _
      · exact sub_of [(0, some 0)] rfl rfl rfl ⟨rfl, rfl, rfl, rfl, trivial⟩ ⟨rfl, trivial⟩
      rintro i hi
      have hi : i ≤ n := hi
      refine Br.mk (fun k1 => ?_) (fun k1 => ?_)
      · refine Ob.mk (by omega) ?_
        intro y hy
        refine ⟨Dig, dgE, [y], rfl, Ob.mk (dOne y) ?_⟩
        refine ⟨_, rfl, Ob.mk (dApp (by simp; omega)) ?_⟩
        refine Ar.fit (by omega) ?_
        refine ⟨i + 1, by show i + 1 ≤ n; omega, sub_of [(0, some 2)] rfl rfl rfl ⟨rfl, rfl, rfl, rfl, trivial⟩
          ⟨congrArg (fun l => some (dArr l)) (by rw [List.take_add_one, show a[i]? = some y from hy]; rfl), trivial⟩, by dsimp only; omega⟩
      · have hin : i = n := by omega
        subst hin
        exact ⟨some 0, .own _ rfl, rfl, fun _ _ => rfl⟩
  · have h5 : n = 0 := by omega
    rw [post n h1 h2 (.inl h5)]
    refine ⟨Dig, dgE, [], rfl, Ob.mk dNone ?_⟩
    refine ⟨Nat, fun i => ⟨[(5, i64 i), (3, i64 n), (4, .own 0), (0, .sl dgE a)], [(0, dArr (a.take i))], 1, 34, 0⟩, fun i => i ≤ n, fun i => n - i, 0, ?_, ?_, ?_⟩
    · exact Nat.zero_le _
    · exact sub_of [(0, some 0)] rfl rfl rfl ⟨rfl, rfl, rfl, rfl, trivial⟩ ⟨rfl, trivial⟩
    rintro i hi
    have hi : i ≤ n := hi
    refine Br.mk (fun k1 => ?_) (fun k1 => ?_)
    · refine Ob.mk (by omega) ?_
      intro y hy
      refine ⟨Dig, dgE, [y], rfl, Ob.mk (dOne y) ?_⟩
      refine ⟨_, rfl, Ob.mk (dApp (by simp; omega)) ?_⟩
      refine Ar.fit (by omega) ?_
      refine ⟨i + 1, by show i + 1 ≤ n; omega, sub_of [(0, some 2)] rfl rfl rfl ⟨rfl, rfl, rfl, rfl, trivial⟩
        ⟨congrArg (fun l => some (dArr l)) (by rw [List.take_add_one, show a[i]? = some y from hy]; rfl), trivial⟩, by dsimp only; omega⟩
    · have hin : i = n := by omega
      subst hin
      exact ⟨some 0, .own _ rfl, rfl, fun _ _ => rfl⟩

theorem r1_digit (a : List Dig) (i : Int) (hi : 0 ≤ i) : CallsG Tryz.prog 85 [.sl dgE a, i64 i] [] (u64 (dig a i.toNat)) [] := by
  refine calls_to tok mix Tryz.func85 rfl rfl rfl ?_
  refine Br.mk (fun h => ?_) (fun h => ?_)
  · omega
  intro hl
  refine Br.mk (fun h2 => ?_) (fun h2 => ?_)
  · exact LE_int (by rw [dig_out (by omega)]; rfl)
  · refine Ob.mk (by omega) ?_
    intro x hx
    have := x.isLt
    refine Ar.fit (by omega) ?_
    exact LE_int (by rw [dig_some hx])

theorem dofW {n : Nat} {e : Int} (h : e = n) : ((dof n).val : Int) = IntKind.u32.wrap e := by rw [wrap32, dof_val, h]; omega

theorem cmp_step {a b : List Dig} {j : Nat} (h : ∀ i, j + 1 ≤ i → dig a i = dig b i) (hl : dig a j < dig b j) : val a < val b := by
  have e1 := val_split a j
  have e2 := val_split b j
  have e3 := val_take_lt a j
  have e4 := val_drop_cons a j
  have e5 := val_drop_cons b j
  have e6 := val_drop_congr h
  have : val (a.drop j) + 1 ≤ val (b.drop j) := by omega
  have := Nat.mul_le_mul_left (4294967296 ^ j) this
  rw [Nat.mul_add] at this
  omega

theorem r1_cmp (a b : List Dig) (ha : a.length ≤ 1000000000) (hb : b.length ≤ 1000000000) :
    CallsG Tryz.prog 86 [.sl dgE a, .sl dgE b] [] (i64 (cmpN (val a) (val b))) [] := by
  refine calls_to tok mix Tryz.func86 rfl rfl rfl ?_
  intro hl1 hl2
  refine Ar.fit (by simp only [maxL]; omega) ?_
  refine ⟨Nat, fun j => ⟨[(5, i64 ((j : Int) - 1)), (0, .sl dgE a), (1, .sl dgE b)], [], 0, 30, 0⟩, fun j => j ≤ 1000000000 ∧ ∀ i, j ≤ i → dig a i = dig b i, fun j => j, max a.length b.length, ?_, ?_, ?_⟩
  · exact ⟨by omega, fun i hi => by rw [dig_out (by omega), dig_out (by omega)]⟩
  · exact sub_of [] rfl rfl rfl ⟨congrArg (fun n => some (i64 n)) (by simp only [maxL]; omega), rfl, rfl, trivial⟩ trivial
  rintro j ⟨h1, h2⟩
  refine Br.mk (fun h3 => ?_) (fun h3 => ?_)
  · have e : ((j : Int) - 1).toNat = j - 1 := by omega
    have h2' : ∀ i, j - 1 + 1 ≤ i → dig a i = dig b i := fun i hi => h2 i (by omega)
    refine CallV.to _ (r1_digit a _ (by omega)) rfl ?_
    refine CallV.to _ (r1_digit b _ (by omega)) rfl ?_
    refine Br.mk (fun h4 => ?_) (fun h4 => ?_)
    · have := cmp_step h2' (by rw [e] at h4; omega)
      exact LE_int (by rw [cmpN, if_pos this])
    refine CallV.to _ (r1_digit a _ (by omega)) rfl ?_
    refine CallV.to _ (r1_digit b _ (by omega)) rfl ?_
    refine Br.mk (fun h5 => ?_) (fun h5 => ?_)
    · have := cmp_step (fun i hi => (h2' i hi).symm) (by rw [e] at h5; omega)
      exact LE_int (by rw [cmpN, if_neg (by omega), if_pos this])
    refine Ar.fit (by omega) ?_
    refine ⟨j - 1, ⟨by omega, fun i hi => ?_⟩, sub_of [] rfl rfl rfl ⟨congrArg (fun n => some (i64 n)) (by omega), rfl, rfl, trivial⟩ trivial, by dsimp only; omega⟩
    by_cases hij : i = j - 1
    · subst hij; rw [e] at h4 h5; omega
    · exact h2 i (by omega)
  · have hj : j = 0 := by omega
    subst hj
    have := val_congr fun i => h2 i (Nat.zero_le _)
    exact LE_int (by rw [cmpN, if_neg (by omega), if_neg (by omega)])

set_option maxRecDepth 100000 in
theorem r1_add (a b : List Dig) (ha : a.length ≤ 900000000) (hb : b.length ≤ 900000000) :
    CallsG Tryz.prog 65 [.sl dgE a, .sl dgE b] [] (.own 0) [(0, dArr (digs (val a + val b)))] := by
  refine calls_own tok mix Tryz.func65 rfl rfl rfl ?_
  refine ⟨Dig, dgE, [], rfl, Ob.mk dNone ?_⟩
  refine ⟨Nat × List Dig × Nat, fun q => ⟨[(7, i64 q.1), (6, u64 q.2.2), (5, .own 0), (0, .sl dgE a), (1, .sl dgE b)], [(0, dArr q.2.1)], 1, 42, 0⟩,
    fun q => q.1 ≤ max a.length b.length ∧ q.2.1.length = q.1 ∧ q.2.2 ≤ 1 ∧ val q.2.1 + 4294967296 ^ q.1 * q.2.2 = val (a.take q.1) + val (b.take q.1), fun q => max a.length b.length - q.1, (0, [], 0), ?_, ?_, ?_⟩
  · exact ⟨Nat.zero_le _, rfl, Nat.zero_le _, rfl⟩
  · exact sub_of [(0, some 0)] rfl rfl rfl ⟨rfl, rfl, rfl, rfl, rfl, trivial⟩ ⟨rfl, trivial⟩
  rintro ⟨i, out, c⟩ ⟨h1, h2, h3, h4⟩
  dsimp only at h1 h2 h3 h4
  intro hl1 hl2
  refine Br.mk (fun h5 => ?_) (fun h5 => ?_)
  · simp only [maxL] at h5
    have d1 := dig_lt a i
    have d2 := dig_lt b i
    refine CallV.to _ (r1_digit a _ (by omega)) rfl ?_
    refine CallV.to _ (r1_digit b _ (by omega)) rfl ?_
    simp only [Int.toNat_natCast]
    refine Ar.fit (by omega) ?_
    refine Ar.fit (by omega) ?_
    refine Ar.wrap ?_
    refine ⟨Dig, dgE, [dof (dig a i + dig b i + c)], congrArg (fun n => [u32 n]) (dofW (by omega)), Ob.mk (dOne _) ?_⟩
    refine ⟨_, rfl, Ob.mk (dApp (by simp; omega)) ?_⟩
    refine Ob.mk (by decide) ?_
    refine Ar.fit (by omega) ?_
    refine ⟨(i + 1, out ++ [dof (dig a i + dig b i + c)], (dig a i + dig b i + c) / 4294967296), ⟨by dsimp only; omega, by simp [h2], by dsimp only; omega, ?_⟩,
      sub_of [(0, some 2)] rfl rfl rfl ⟨rfl, congrArg (fun n => some (u64 n)) (by dsimp only; omega), rfl, rfl, rfl, trivial⟩ ⟨rfl, trivial⟩, by dsimp only; omega⟩
    dsimp only
    rw [val_snoc, h2, dof_val, val_take_succ, val_take_succ, Nat.pow_succ]
    have e := Nat.div_add_mod (dig a i + dig b i + c) 4294967296
    generalize (dig a i + dig b i + c) / 4294967296 = x at *
    generalize (dig a i + dig b i + c) % 4294967296 = y at *
    generalize 4294967296 ^ i = p at *
    grind
  · simp only [maxL] at h5
    have hi : i = max a.length b.length := by omega
    refine Ar.wrap ?_
    refine ⟨Dig, dgE, [dof c], congrArg (fun n => [u32 n]) (dofW rfl), Ob.mk (dOne _) ?_⟩
    refine ⟨_, rfl, Ob.mk (dApp (by simp; omega)) ?_⟩
    refine CallV.fresh _ _ (r1_normalize _ (by simp; omega)) rfl (dArr_flat _) (.inr (dArr_scalar _)) ?_
    refine ⟨some 3, .own _ rfl, ?_, fun _ _ => rfl⟩
    have e : val (out ++ [dof c]) = val a + val b := by
      rw [val_snoc, h2, dof_val, Nat.mod_eq_of_lt (by omega), h4, val_take_all (by omega), val_take_all (by omega)]
    rw [← e]; rfl

end Go.Gs
/- Natural numbers, the other text: differences, products, shifts. -/
namespace Go.Gs
open Go.Proofs

theorem r1_normalizeP (a : List Dig) (ha : a.length ≤ 1000000000) : CallsG Tryz.prog 83 [.sl dgE a] [] (.sl dgE (digs (val a))) [] :=
  (r1_normalize a ha).plain rfl
theorem r1_addP (a b : List Dig) (ha : a.length ≤ 900000000) (hb : b.length ≤ 900000000) :
    CallsG Tryz.prog 65 [.sl dgE a, .sl dgE b] [] (.sl dgE (digs (val a + val b))) [] := (r1_add a b ha hb).plain rfl

set_option maxRecDepth 100000 in
theorem r1_sub (a b : List Dig) (ha : a.length ≤ 900000000) (hb : b.length ≤ 900000000) :
    CallsG Tryz.prog 66 [.sl dgE a, .sl dgE b] [] (.tup [.own 0, pr (val b ≤ val a)]) [(0, dArr (digs (val a - val b)))] := by
  refine calls_own tok mix Tryz.func66 rfl rfl rfl ?_
  refine CallV.to _ (r1_cmp a b (by omega) (by omega)) rfl ?_
  refine Br.mk (fun h => ?_) (fun h => ?_)
  · have hlt : val a < val b := cmpN_lt.1 h
    refine ⟨none, take_tup (.cons (.nil rfl) (.cons (.le _ _ (LE_false (by omega)) rfl) .nil)), ?_⟩
    show digs (val a - val b) = []
    rw [Nat.sub_eq_zero_of_le (by omega)]; exact digs_zero
  have hle : val b ≤ val a := Nat.le_of_not_lt fun h' => h (cmpN_lt.2 h')
  refine ⟨Dig, dgE, [], rfl, Ob.mk dNone ?_⟩
  refine ⟨Nat × List Dig × Nat, fun ⟨i, out, c⟩ => ⟨[(8, i64 i), (7, u64 c), (6, .own 0), (0, .sl dgE a), (1, .sl dgE b)], [(0, dArr out)], 1, 41, 0⟩,
    fun q => q.1 ≤ a.length ∧ q.2.1.length = q.1 ∧ q.2.2 ≤ 1 ∧ val q.2.1 + val (b.take q.1) = val (a.take q.1) + 4294967296 ^ q.1 * q.2.2, fun q => a.length - q.1, (0, [], 0), ?_, ?_, ?_⟩
  · exact ⟨Nat.zero_le _, rfl, Nat.zero_le _, rfl⟩
  · exact sub_of [(0, some 0)] rfl rfl rfl ⟨rfl, rfl, rfl, rfl, rfl, trivial⟩ ⟨rfl, trivial⟩
  rintro ⟨i, out, c⟩ ⟨h1, h2, h3, h4⟩
  dsimp only at h1 h2 h3 h4
  intro hl1
  refine Br.mk (fun h5 => ?_) (fun h5 => ?_)
  · have d1 := dig_lt a i
    have d2 := dig_lt b i
    refine CallV.to _ (r1_digit a _ (by omega)) rfl ?_
    simp only [Int.toNat_natCast]
    refine Ar.fit (by omega) ?_
    refine CallV.to _ (r1_digit b _ (by omega)) rfl ?_
    simp only [Int.toNat_natCast]
    refine Ar.fit (by omega) ?_
    refine Ar.fit (by omega) ?_
    refine Ar.wrap ?_
    refine ⟨Dig, dgE, [dof (4294967296 + dig a i - dig b i - c)], congrArg (fun n => [u32 n]) (dofW (by omega)), Ob.mk (dOne _) ?_⟩
    refine ⟨_, rfl, Ob.mk (dApp (by simp; omega)) ?_⟩
    refine Ob.mk (by decide) ?_
    refine Ar.fit (by simp only [Int.reducePow]; omega) ?_
    refine Ar.fit (by omega) ?_
    refine ⟨(i + 1, out ++ [dof (4294967296 + dig a i - dig b i - c)], 1 - (4294967296 + dig a i - dig b i - c) / 4294967296), ⟨by dsimp only; omega, by simp [h2], by dsimp only; omega, ?_⟩,
      sub_of [(0, some 2)] rfl rfl rfl ⟨rfl, congrArg (fun n => some (u64 n)) (by dsimp only; omega), rfl, rfl, rfl, trivial⟩ ⟨rfl, trivial⟩, by dsimp only; omega⟩
    dsimp only
    rw [val_snoc, h2, dof_val, val_take_succ, val_take_succ, Nat.pow_succ]
    have e : (4294967296 + dig a i - dig b i - c) % 4294967296 + dig b i + c = dig a i + 4294967296 * (1 - (4294967296 + dig a i - dig b i - c) / 4294967296) := by omega
    generalize 1 - (4294967296 + dig a i - dig b i - c) / 4294967296 = x at *
    generalize (4294967296 + dig a i - dig b i - c) % 4294967296 = y at *
    generalize 4294967296 ^ i = p at *
    have e2 : p * y + p * dig b i + p * c = p * dig a i + p * 4294967296 * x := by
      rw [← Nat.mul_add, ← Nat.mul_add, e, Nat.mul_add, Nat.mul_assoc]
    omega
  · have hi : i = a.length := by omega
    refine CallV.fresh _ _ (r1_normalize _ (by omega)) rfl (dArr_flat _) (.inr (dArr_scalar _)) ?_
    refine ⟨some 1, take_tup (.cons (.own _ rfl) (.cons (.le _ _ (LE_true hle) rfl) .nil)), ?_, fun _ _ => rfl⟩
    have e : val out = val a - val b := by
      subst hi
      have e0 : val (a.take a.length) = val a := val_take_all (Nat.le_refl _)
      rw [e0] at h4
      have e1 := val_split b a.length
      have e2 := val_lt a
      have e3 : val (b.drop a.length) = 0 := by
        rcases Nat.eq_zero_or_pos (val (b.drop a.length)) with h | h
        · exact h
        · have := Nat.mul_le_mul_left (4294967296 ^ a.length) h
          omega
      have e4 := val_lt out
      rw [h2] at e4
      rw [e3] at e1
      have : c = 0 ∨ c = 1 := by omega
      rcases this with rfl | rfl <;> omega
    rw [← e]; rfl

theorem r1_subP (a b : List Dig) (ha : a.length ≤ 900000000) (hb : b.length ≤ 900000000) :
    CallsG Tryz.prog 66 [.sl dgE a, .sl dgE b] [] (.tup [.sl dgE (digs (val a - val b)), pr (val b ≤ val a)]) [] := (r1_sub a b ha hb).plain rfl

theorem mul_digs {x y c : Nat} (hx : x < 4294967296) (hy : y < 4294967296) (hc : c < 4294967296) : x * y + c ≤ 18446744069414584320 := by
  have : x * y ≤ 4294967295 * 4294967295 := Nat.mul_le_mul (by omega) (by omega)
  omega

theorem mul_digs0 {x y : Nat} (hx : x < 4294967296) (hy : y < 4294967296) : x * y ≤ 18446744065119617025 := by
  have : x * y ≤ 4294967295 * 4294967295 := Nat.mul_le_mul (by omega) (by omega)
  omega
theorem mul_step {p q x y z c u v w o o0 r : Nat} (h4 : o + p * q * c = o0 + p * (x * w)) (hs : r + p * q * z = o + p * q * v) (e : 4294967296 * u + v = x * y + z + c) :
    r + p * q * 4294967296 * u = o0 + p * (x * (w + q * y)) := by grind

set_option maxRecDepth 100000 in
theorem r1_times (a : List Dig) (d : Nat) (ha : a.length ≤ 900000000) (hd : d < 4294967296) :
    CallsG Tryz.prog 123 [.sl dgE a, u64 d] [] (.own 0) [(0, dArr (digs (val a * d)))] := by
  refine calls_own tok mix Tryz.func123 rfl rfl rfl ?_
  refine ⟨Dig, dgE, [], rfl, Ob.mk dNone ?_⟩
  refine ⟨Nat × List Dig × Nat, fun ⟨i, out, c⟩ => ⟨[(7, i64 i), (6, u64 c), (5, .own 0), (0, .sl dgE a), (1, u64 d)], [(0, dArr out)], 1, 39, 0⟩,
    fun q => q.1 ≤ a.length ∧ q.2.1.length = q.1 ∧ q.2.2 < 4294967296 ∧ val q.2.1 + 4294967296 ^ q.1 * q.2.2 = val (a.take q.1) * d, fun q => a.length - q.1, (0, [], 0), ?_, ?_, ?_⟩
  · exact ⟨Nat.zero_le _, rfl, by decide, by simp [val]⟩
  · exact sub_of [(0, some 0)] rfl rfl rfl ⟨rfl, rfl, rfl, rfl, rfl, trivial⟩ ⟨rfl, trivial⟩
  rintro ⟨i, out, c⟩ ⟨h1, h2, h3, h4⟩
  dsimp only at h1 h2 h3 h4
  intro hl1
  refine Br.mk (fun h5 => ?_) (fun h5 => ?_)
  · refine Ob.mk (by omega) ?_
    intro x hx
    have hx : a[i]? = some x := hx
    have dx := dig_some hx
    have hm := mul_digs x.isLt hd h3
    have hm0 := mul_digs0 x.isLt hd
    have hxl := x.isLt
    refine Ar.fit (by omega) ?_
    refine Ar.fit (by omega) ?_
    refine Ar.fit (by omega) ?_
    refine Ar.wrap ?_
    refine ⟨Dig, dgE, [dof (x.val * d + c)], congrArg (fun n => [u32 n]) (dofW (by omega)), Ob.mk (dOne _) ?_⟩
    refine ⟨_, rfl, Ob.mk (dApp (by simp; omega)) ?_⟩
    refine Ob.mk (by decide) ?_
    refine Ar.fit (by omega) ?_
    refine ⟨(i + 1, out ++ [dof (x.val * d + c)], (x.val * d + c) / 4294967296), ⟨by dsimp only; omega, by simp [h2], by dsimp only; omega, ?_⟩,
      sub_of [(0, some 2)] rfl rfl rfl ⟨rfl, congrArg (fun n => some (u64 n)) (by dsimp only; omega), rfl, rfl, rfl, trivial⟩ ⟨rfl, trivial⟩, by dsimp only; omega⟩
    dsimp only
    rw [val_snoc, h2, dof_val, val_take_succ, Nat.pow_succ, dx]
    have e := Nat.div_add_mod (x.val * d + c) 4294967296
    generalize (x.val * d + c) / 4294967296 = u at *
    generalize (x.val * d + c) % 4294967296 = v at *
    generalize 4294967296 ^ i = p at *
    generalize x.val = x at *
    generalize val (a.take i) = w at *
    clear hm hm0
    grind
  · have hi : i = a.length := by omega
    refine Ar.wrap ?_
    refine ⟨Dig, dgE, [dof c], congrArg (fun n => [u32 n]) (dofW rfl), Ob.mk (dOne _) ?_⟩
    refine ⟨_, rfl, Ob.mk (dApp (by simp; omega)) ?_⟩
    refine CallV.fresh _ _ (r1_normalize _ (by simp; omega)) rfl (dArr_flat _) (.inr (dArr_scalar _)) ?_
    refine ⟨some 3, .own _ rfl, ?_, fun _ _ => rfl⟩
    have e : val (out ++ [dof c]) = val a * d := by
      rw [val_snoc, h2, dof_val, Nat.mod_eq_of_lt (by omega), h4, val_take_all (by omega)]
    rw [← e]; rfl
theorem r1_timesP (a : List Dig) (d : Nat) (ha : a.length ≤ 900000000) (hd : d < 4294967296) :
    CallsG Tryz.prog 123 [.sl dgE a, u64 d] [] (.sl dgE (digs (val a * d))) [] := (r1_times a d ha hd).plain rfl

set_option maxRecDepth 100000 in
set_option maxHeartbeats 1000000 in
theorem r1_mul (a b : List Dig) (ha : a.length ≤ 400000000) (hb : b.length ≤ 400000000) :
    CallsG Tryz.prog 62 [.sl dgE a, .sl dgE b] [] (.own 0) [(0, dArr (digs (val a * val b)))] := by
  refine calls_own tok mix Tryz.func62 rfl rfl rfl ?_
  intro hl1 hl2
  refine Ar.fit (by omega) ?_
  refine Ar.fit (by omega) ?_
  refine ⟨Dig, dgE, 0, rfl, Ob.mk ⟨by decide, by omega, by omega, (by show _ * (4 : Int) ≤ _; omega), by omega⟩ ?_⟩
  refine ⟨Nat × List Dig, fun ⟨i, out⟩ => ⟨[(6, i64 i), (5, .own 0), (0, .sl dgE a), (1, .sl dgE b)], [(0, dArr out)], 1, 69, 0⟩,
    fun q => q.1 ≤ a.length ∧ q.2.length = a.length + b.length + 1 ∧ val q.2 = val (a.take q.1) * val b ∧ ∀ j, q.1 + b.length ≤ j → dig q.2 j = 0, fun q => a.length - q.1, (0, List.replicate (a.length + b.length + 1) 0), ?_, ?_, ?_⟩
  · exact ⟨Nat.zero_le _, by simp, by simp [val_zeros, val], fun j _ => dig_replicate _ _⟩
  · exact sub_of [(0, some 0)] rfl rfl rfl ⟨rfl, rfl, rfl, rfl, trivial⟩ ⟨congrArg (fun n => some (dArr (List.replicate n 0))) (by omega), trivial⟩
  rintro ⟨i, out0⟩ ⟨h1, h2, h3, h4⟩
  dsimp only at h1 h2 h3 h4
  intro hl3
  refine Br.mk (fun h5 => ?_) (fun h5 => ?_)
  · refine ⟨Nat × List Dig × Nat, fun ⟨k, out, c⟩ => ⟨[(8, i64 k), (7, u64 c), (6, i64 i), (5, .own 0), (0, .sl dgE a), (1, .sl dgE b)], [(0, dArr out)], 1, 69, 0⟩,
      fun q => q.1 ≤ b.length ∧ q.2.1.length = a.length + b.length + 1 ∧ q.2.2 < 4294967296 ∧ val q.2.1 + 4294967296 ^ (i + q.1) * q.2.2 = val out0 + 4294967296 ^ i * (dig a i * val (b.take q.1)) ∧ ∀ j, i + b.length ≤ j → dig q.2.1 j = 0, fun q => b.length - q.1, (0, out0, 0), ?_, ?_, ?_⟩
    · exact ⟨Nat.zero_le _, h2, by dsimp only; omega, by simp [val], h4⟩
    · exact sub_of [(0, some 0)] rfl rfl rfl ⟨rfl, rfl, rfl, rfl, rfl, rfl, trivial⟩ ⟨rfl, trivial⟩
    rintro ⟨k, out, c⟩ ⟨g1, g2, g3, g4, g5⟩
    dsimp only at g1 g2 g3 g4 g5
    intro hl4
    refine Br.mk (fun g6 => ?_) (fun g6 => ?_)
    · refine Dr.mk (by decide +kernel) ?_
      refine Ob.mk (by omega) ?_
      intro x hx
      have hx : a[i]? = some x := hx
      have dx := dig_some hx
      have hxl := x.isLt
      refine Ar.fit (by omega) ?_
      refine Ob.mk (by omega) ?_
      intro y hy
      have hy : b[k]? = some y := hy
      have dy := dig_some hy
      have hyl := y.isLt
      refine Ar.fit (by omega) ?_
      have hm0 := mul_digs0 hxl hyl
      refine Ar.fit (by omega) ?_
      refine Ar.fit (by omega) ?_
      refine Ob.mk (by omega) ?_
      refine Ob.mk (by omega) ?_
      intro z hz
      rw [show ((i : Int) + k).toNat = i + k by omega] at hz
      have dz := dig_some hz
      have hzl := z.isLt
      refine Ar.fit (by omega) ?_
      refine Ar.fit (by omega) ?_
      refine Ar.fit (by omega) ?_
      refine Ar.fit (by omega) ?_
      refine Ar.wrap ?_
      refine Ob.mk (by omega) ?_
      refine Ob.mk (by omega) ?_
      intro z' hz'
      refine ⟨dof (x.val * y.val + z.val + c), congrArg (fun n => [u32 n]) (dofW (by omega)), ?_⟩
      refine Ob.mk (by decide) ?_
      refine Ar.fit (by omega) ?_
      refine ⟨(k + 1, out.set (i + k) (dof (x.val * y.val + z.val + c)), (x.val * y.val + z.val + c) / 4294967296), ⟨by dsimp only; omega, by simp [g2], by dsimp only; omega, ?_, ?_⟩,
        sub_of [(0, some 0)] rfl rfl rfl ⟨rfl, congrArg (fun n => some (u64 n)) (by dsimp only; omega), rfl, rfl, rfl, rfl, trivial⟩ ⟨congrArg (fun n => some (dArr (out.set n _))) (by omega), trivial⟩, by dsimp only; omega⟩
      · dsimp only
        have hs := val_set out (i + k) (dof (x.val * y.val + z.val + c)) (by omega)
        rw [dof_val, dz] at hs
        rw [val_take_succ, dy, ← Nat.add_assoc i k 1, Nat.pow_succ]
        rw [dx] at g4 ⊢
        have e := Nat.div_add_mod (x.val * y.val + z.val + c) 4294967296
        rw [Nat.pow_add] at g4 hs ⊢
        exact mul_step g4 hs e
      · intro j hj
        dsimp only
        rw [dig_set, if_neg (by omega)]
        exact g5 j hj
    · have hk : k = b.length := by omega
      intro hl5
      refine Ar.fit (by omega) ?_
      refine Ar.wrap ?_
      refine Ob.mk (by omega) ?_
      refine Ob.mk (by omega) ?_
      intro z' hz'
      refine ⟨dof c, congrArg (fun n => [u32 n]) (dofW rfl), ?_⟩
      refine Ar.fit (by omega) ?_
      refine ⟨(i + 1, out.set (i + b.length) (dof c)), ⟨by dsimp only; omega, by simp [g2], ?_, ?_⟩,
        sub_of [(0, some 0)] rfl rfl rfl ⟨rfl, rfl, rfl, rfl, trivial⟩ ⟨congrArg (fun n => some (dArr (out.set n _))) (by omega), trivial⟩, by dsimp only; omega⟩
      · dsimp only
        have hs := val_set out (i + b.length) (dof c) (by omega)
        rw [dof_val, g5 _ (Nat.le_refl _), Nat.mod_eq_of_lt g3] at hs
        rw [hk, val_take_all (Nat.le_refl _), h3] at g4
        rw [val_take_succ]
        generalize val (out.set (i + b.length) _) = r at *
        generalize 4294967296 ^ i = p at *
        generalize 4294967296 ^ (i + b.length) = q at *
        generalize val (a.take i) = w at *
        generalize dig a i = x at *
        generalize val out = o at *
        clear h4 g5
        grind
      · intro j hj
        dsimp only
        rw [dig_set, if_neg (by omega)]
        exact g5 j (by omega)
  · have hi : i = a.length := by omega
    refine CallV.fresh _ _ (r1_normalize _ (by omega)) rfl (dArr_flat _) (.inr (dArr_scalar _)) ?_
    refine ⟨some 1, .own _ rfl, ?_, fun _ _ => rfl⟩
    rw [hi, val_take_all (Nat.le_refl _)] at h3
    rw [← h3]; rfl
theorem r1_mulP (a b : List Dig) (ha : a.length ≤ 400000000) (hb : b.length ≤ 400000000) :
    CallsG Tryz.prog 62 [.sl dgE a, .sl dgE b] [] (.sl dgE (digs (val a * val b))) [] := (r1_mul a b ha hb).plain rfl

end Go.Gs
/- Natural numbers, the other text: binary digits, shifts. -/
namespace Go.Gs
open Go.Proofs

theorem nbits_val_le (a : List Dig) : nbits (val a) ≤ 32 * a.length := by
  by_cases h : val a = 0
  · rw [h, nbits_zero]; omega
  · have h1 := nbits_ge h
    have h2 := val_lt a
    rw [pow32] at h2
    have := (Nat.pow_lt_pow_iff_right (by decide : 1 < 2)).1 (Nat.lt_of_le_of_lt h1 h2)
    omega

theorem r1_bitlen (a : List Dig) (ha : a.length ≤ 900000000) : CallsG Tryz.prog 105 [.sl dgE a] [] (i64 (nbits (val a))) [] := by
  refine calls_to tok mix Tryz.func105 rfl rfl rfl ?_
  refine CallV.to _ (r1_normalizeP _ (by omega)) rfl ?_
  intro hl
  have hlen := digs_val_len a
  refine Br.mk (fun h => ?_) (fun h => ?_)
  · have : digs (val a) = [] := List.length_eq_zero_iff.1 (by omega)
    exact LE_int (by rw [digs_nil.1 this]; rfl)
  have hne : digs (val a) ≠ [] := fun e => h (by rw [e]; rfl)
  have hn := (normd_digs (val a)).resolve_left hne
  have htop := nbits_top hn
  rw [val_digs] at htop
  intro hl2
  refine Ar.fit (by omega) ?_
  refine Ar.fit (by omega) ?_
  intro hl3
  refine Ar.fit (by omega) ?_
  refine Ob.mk (by omega) ?_
  intro x hx
  rw [show (((digs (val a)).length : Int) - 1).toNat = (digs (val a)).length - 1 by omega] at hx
  have dx := dig_some hx
  have hxl := x.isLt
  have hb := nbits_val_le a
  refine ⟨Nat × Nat, fun ⟨n, t⟩ => ⟨[(4, i64 n), (5, u32 t)], [], 0, 28, 0⟩, fun q => q.2 < 4294967296 ∧ q.1 + nbits q.2 = nbits (val a), fun q => q.2, (32 * ((digs (val a)).length - 1), x.val), ?_, ?_, ?_⟩
  · exact ⟨hxl, by dsimp only; rw [htop, dx]⟩
  · exact sub_of [] rfl rfl rfl ⟨congrArg (fun n => some (i64 n)) (by omega), rfl, trivial⟩ trivial
  rintro ⟨n, t⟩ ⟨g1, g2⟩
  dsimp only at g1 g2
  refine Br.mk (fun g3 => ?_) (fun g3 => ?_)
  · have hh := nbits_half (n := t) (by omega)
    refine Ar.fit (by omega) ?_
    refine Dv.pos ⟨by omega, by omega, by show _ ≤ (4294967295 : Int); omega⟩ ?_
    exact ⟨(n + 1, t / 2), ⟨by dsimp only; omega, by dsimp only; omega⟩, sub_of [] rfl rfl rfl ⟨rfl, congrArg (fun n => some (u32 n)) (by omega), trivial⟩ trivial, by dsimp only; omega⟩
  · have : t = 0 := by omega
    subst this
    exact LE_int (by rw [← g2]; rfl)

theorem up_step {p s x c u v w o M : Nat} (h4 : o + p * M * c = p * (s * w)) (e : 4294967296 * u + v = x * s + c) :
    o + p * M * v + p * (M * 4294967296) * u = p * (s * (w + M * x)) := by grind

set_option maxRecDepth 100000 in
theorem r1_up (a : List Dig) (n : Nat) (ha : a.length ≤ 800000000) (hn : n ≤ 4096) :
    CallsG Tryz.prog 122 [.sl dgE a, i64 n] [] (.own 0) [(0, dArr (digs (val a * 2 ^ n)))] := by
  refine calls_own tok mix Tryz.func122 rfl rfl rfl ?_
  have hs0 : 2 ^ (n % 32) ≤ 2 ^ 31 := Nat.pow_le_pow_right (by decide) (by omega)
  have hs1 : 0 < 2 ^ (n % 32) := Nat.pow_pos (by decide)
  generalize hs : 2 ^ (n % 32) = s at *
  refine Dv.pos ⟨by omega, by omega, by show _ ≤ (9223372036854775807 : Int); omega⟩ ?_
  refine ⟨Dig, dgE, 0, rfl, Ob.mk ⟨by decide, by omega, by omega, (by show _ * (4 : Int) ≤ _; omega), by omega⟩ ?_⟩
  refine ⟨Nat × List Dig × Nat, fun ⟨i, out, c⟩ => ⟨[(7, i64 i), (6, u64 c), (5, .own 0), (0, .sl dgE a), (1, i64 n)], [(0, dArr out)], 1, 43, 0⟩,
    fun q => q.1 ≤ a.length ∧ q.2.1.length = n / 32 + q.1 ∧ q.2.2 < s ∧ val q.2.1 + 4294967296 ^ (n / 32) * 4294967296 ^ q.1 * q.2.2 = 4294967296 ^ (n / 32) * (s * val (a.take q.1)), fun q => a.length - q.1, (0, List.replicate (n / 32) 0, 0), ?_, ?_, ?_⟩
  · exact ⟨Nat.zero_le _, by simp, hs1, by simp [val_zeros, val]⟩
  · exact sub_of [(0, some 0)] rfl rfl rfl ⟨rfl, rfl, rfl, rfl, rfl, trivial⟩ ⟨congrArg (fun n => some (dArr (List.replicate n 0))) (by omega), trivial⟩
  rintro ⟨i, out, c⟩ ⟨h1, h2, h3, h4⟩
  dsimp only at h1 h2 h3 h4
  intro hl1
  refine Br.mk (fun h5 => ?_) (fun h5 => ?_)
  · refine Ob.mk (by omega) ?_
    intro x hx
    have hx : a[i]? = some x := hx
    have dx := dig_some hx
    have hxl := x.isLt
    refine Ar.fit (by omega) ?_
    refine Dv.pos ⟨by omega, by omega⟩ ?_
    refine Ar.fit (by omega) ?_
    refine Ob.mk (by show _ ∧ _ < (64 : Int); omega) ?_
    have hm : x.val * s ≤ 4294967295 * 2 ^ 31 := Nat.mul_le_mul (by omega) hs0
    have hm2 : (x.val : Int) * 2 ^ ((n : Int) % 32).toNat = ((x.val * s : Nat) : Int) := by
      rw [← hs, show ((n : Int) % 32).toNat = n % 32 by omega]; simp
    have hm3 : x.val * s + c < 4294967296 * s := by
      have : x.val * s ≤ 4294967295 * s := Nat.mul_le_mul_right _ (by omega)
      omega
    refine Ar.fit (by rw [hm2]; omega) ?_
    refine Ar.fit (by rw [hm2]; omega) ?_
    refine Ar.wrap ?_
    refine ⟨Dig, dgE, [dof (x.val * s + c)], congrArg (fun n => [u32 n]) (dofW (by rw [hm2]; omega)), Ob.mk (dOne _) ?_⟩
    refine ⟨_, rfl, Ob.mk (dApp (by simp; omega)) ?_⟩
    refine Ob.mk (by decide) ?_
    refine Ar.fit (by omega) ?_
    refine ⟨(i + 1, out ++ [dof (x.val * s + c)], (x.val * s + c) / 4294967296), ⟨by dsimp only; omega, by simp [h2]; omega, by dsimp only; omega, ?_⟩,
      sub_of [(0, some 2)] rfl rfl rfl ⟨rfl, congrArg (fun n => some (u64 n)) (by rw [hm2]; dsimp only; omega), rfl, rfl, rfl, trivial⟩ ⟨rfl, trivial⟩, by dsimp only; omega⟩
    dsimp only
    rw [val_snoc, h2, dof_val, val_take_succ, dx, Nat.pow_succ, Nat.pow_add]
    exact up_step h4 (Nat.div_add_mod (x.val * s + c) 4294967296)
  · have hi : i = a.length := by omega
    refine Ar.wrap ?_
    refine ⟨Dig, dgE, [dof c], congrArg (fun n => [u32 n]) (dofW rfl), Ob.mk (dOne _) ?_⟩
    refine ⟨_, rfl, Ob.mk (dApp (by simp; omega)) ?_⟩
    refine CallV.fresh _ _ (r1_normalize _ (by simp; omega)) rfl (dArr_flat _) (.inr (dArr_scalar _)) ?_
    refine ⟨some 3, .own _ rfl, ?_, fun _ _ => rfl⟩
    have e : val (out ++ [dof c]) = val a * 2 ^ n := by
      rw [val_snoc, h2, dof_val, Nat.mod_eq_of_lt (by omega), Nat.pow_add, h4, val_take_all (by omega), ← hs, pow32]
      rw [← Nat.mul_assoc, ← Nat.pow_add, show 32 * (n / 32) + n % 32 = n by omega, Nat.mul_comm]
    rw [← e]; rfl
theorem r1_upP (a : List Dig) (n : Nat) (ha : a.length ≤ 800000000) (hn : n ≤ 4096) :
    CallsG Tryz.prog 122 [.sl dgE a, i64 n] [] (.sl dgE (digs (val a * 2 ^ n))) [] := (r1_up a n ha hn).plain rfl

set_option maxRecDepth 100000 in
theorem r1_shl (a : List Dig) (n : Nat) (ha : a.length ≤ 800000000) (hn : n ≤ 4096) :
    CallsG Tryz.prog 106 [.sl dgE a, i64 n] [] (.own 0) [(0, dArr (digs (val a * 2 ^ n)))] := by
  refine calls_own tok mix Tryz.func106 rfl rfl rfl ?_
  refine Br.mk (fun h => ?_) (fun h => absurd (by omega) h)
  have e : minL (n : Int) [4096] = n := by simp only [minL]; omega
  refine CallV.fresh _ _ (show CallsG Tryz.prog _ [.sl dgE a, i64 (minL (n : Int) [4096])] [] (.own 0) [(0, dArr (digs (val a * 2 ^ n)))] by rw [e]; exact r1_up a n ha hn) rfl (dArr_flat _) (.inr (dArr_scalar _)) ?_
  exact ⟨some 0, .own _ rfl, rfl, fun _ _ => rfl⟩

set_option maxRecDepth 100000 in
theorem r1_shr (a : List Dig) (n : Nat) (ha : a.length ≤ 800000000) (hn : n ≤ 1000000000000) :
    CallsG Tryz.prog 106 [.sl dgE a, i64 (-(n : Int))] [] (.own 0) [(0, dArr (digs (val a / 2 ^ n)))] := by
  refine calls_own tok mix Tryz.func106 rfl rfl rfl ?_
  refine Br.mk (fun h => ?_) (fun h => ?_)
  · have hn0 : n = 0 := by omega
    subst hn0
    refine CallV.fresh _ _ (show CallsG Tryz.prog _ [.sl dgE a, i64 (minL (-((0 : Nat) : Int)) [4096])] [] (.own 0) [(0, dArr (digs (val a / 2 ^ 0)))] by
      have := r1_up a 0 ha (by omega)
      rw [show minL (-((0 : Nat) : Int)) [4096] = 0 by decide, Nat.pow_zero, Nat.div_one]
      rw [Nat.pow_zero, Nat.mul_one] at this
      exact this) rfl (dArr_flat _) (.inr (dArr_scalar _)) ?_
    exact ⟨some 0, .own _ rfl, rfl, fun _ _ => rfl⟩
  intro hl
  refine Ar.fit (by omega) ?_
  refine Br.mk (fun h2 => ?_) (fun h2 => ?_)
  · refine ⟨Dig, dgE, [], rfl, Ob.mk dNone ?_⟩
    refine ⟨some 0, .own _ rfl, ?_, fun _ _ => rfl⟩
    have e : val a / 2 ^ n = 0 := by
      refine Nat.div_eq_of_lt (Nat.lt_of_lt_of_le (val_lt a) ?_)
      rw [pow32]
      exact Nat.pow_le_pow_right (by decide) (by omega)
    rw [e, digs_zero]; rfl
  refine ⟨Dig, dgE, [], rfl, Ob.mk dNone ?_⟩
  refine Ar.fit (by omega) ?_
  refine Dv.pos ⟨by omega, by omega, by show _ ≤ (9223372036854775807 : Int); omega⟩ ?_
  refine ⟨Nat × List Dig, fun ⟨i, out⟩ => ⟨[(6, i64 ((n / 32 + i : Nat))), (5, .own 0), (0, .sl dgE a), (1, i64 (-(n : Int)))], [(0, dArr out)], 1, 51, 0⟩,
    fun q => q.1 + n / 32 ≤ a.length ∧ q.2.length = q.1 ∧ ∀ j, j < q.2.length → dig q.2 j = val a / 2 ^ n / 4294967296 ^ j % 4294967296, fun q => a.length - q.1, (0, []), ?_, ?_, ?_⟩
  · exact ⟨by dsimp only; omega, rfl, fun j h => by simp at h⟩
  · exact sub_of [(0, some 0)] rfl rfl rfl ⟨congrArg (fun n => some (i64 n)) (by omega), rfl, rfl, rfl, trivial⟩ ⟨rfl, trivial⟩
  rintro ⟨i, out⟩ ⟨g1, g2, g3⟩
  dsimp only at g1 g2 g3
  intro hl1
  refine Br.mk (fun h5 => ?_) (fun h5 => ?_)
  · have d1 := dig_lt a (n / 32 + i)
    have d2 := dig_lt a (n / 32 + i + 1)
    have hw : (((n / 32 + i : Nat) : Int) + 1).toNat = n / 32 + i + 1 := by omega
    refine Ar.fit (by omega) ?_
    refine CallV.to _ (r1_digit a _ (by omega)) rfl ?_
    rw [hw]
    refine Ob.mk (by decide) ?_
    refine Ar.fit (by simp only [Int.reducePow]; omega) ?_
    refine CallV.to _ (r1_digit a _ (by omega)) rfl ?_
    simp only [Int.toNat_natCast]
    refine Ar.fit (by simp only [Int.reducePow]; omega) ?_
    refine Ar.fit (by omega) ?_
    refine Dv.pos ⟨by omega, by omega⟩ ?_
    refine Ar.fit (by omega) ?_
    refine Ob.mk (by show _ ∧ _ < (64 : Int); omega) ?_
    refine Ar.wrap ?_
    have es : ((-(-(n : Int))) % 32).toNat = n % 32 := by omega
    refine ⟨Dig, dgE, [dof ((dig a (n / 32 + i + 1) * 4294967296 + dig a (n / 32 + i)) / 2 ^ (n % 32))], congrArg (fun n => [u32 n]) (dofW (by rw [es]; simp)), Ob.mk (dOne _) ?_⟩
    refine ⟨_, rfl, Ob.mk (dApp (by simp; omega)) ?_⟩
    refine Ar.fit (by omega) ?_
    refine ⟨(i + 1, out ++ [dof ((dig a (n / 32 + i + 1) * 4294967296 + dig a (n / 32 + i)) / 2 ^ (n % 32))]), ⟨by dsimp only; omega, by simp [g2], ?_⟩,
      sub_of [(0, some 2)] rfl rfl rfl ⟨congrArg (fun n => some (i64 n)) (by omega), rfl, rfl, rfl, trivial⟩ ⟨rfl, trivial⟩, by dsimp only; omega⟩
    intro j hj
    dsimp only at hj ⊢
    rw [List.length_append, List.length_singleton] at hj
    rw [dig_append]
    split
    · exact g3 j (by omega)
    · have hji : j = i := by omega
      subst hji
      have := shr_dig a (n / 32) (n % 32) j (by omega)
      rw [show 32 * (n / 32) + n % 32 = n by omega] at this
      rw [this, g2, Nat.sub_self, dig_cons_zero, dof_val]
  · refine CallV.fresh _ _ (r1_normalize _ (by omega)) rfl (dArr_flat _) (.inr (dArr_scalar _)) ?_
    refine ⟨some 1, .own _ rfl, ?_, fun _ _ => rfl⟩
    have e : val out = val a / 2 ^ n := by
      rw [val_of_digs g3, Nat.mod_eq_of_lt]
      rw [Nat.div_lt_iff_lt_mul (Nat.pow_pos (by decide))]
      refine Nat.lt_of_lt_of_le (val_lt a) ?_
      rw [pow32, pow32, ← Nat.pow_add]
      exact Nat.pow_le_pow_right (by decide) (by omega)
    rw [← e]; rfl

theorem r1_shlP (a : List Dig) (n : Nat) (ha : a.length ≤ 800000000) (hn : n ≤ 4096) :
    CallsG Tryz.prog 106 [.sl dgE a, i64 n] [] (.sl dgE (digs (val a * 2 ^ n))) [] := (r1_shl a n ha hn).plain rfl

theorem r1_shrP (a : List Dig) (n : Nat) (ha : a.length ≤ 800000000) (hn : n ≤ 1000000000000) :
    CallsG Tryz.prog 106 [.sl dgE a, i64 (-(n : Int))] [] (.sl dgE (digs (val a / 2 ^ n))) [] := (r1_shr a n ha hn).plain rfl

end Go.Gs
/- Natural numbers, the other text: quotients. -/
namespace Go.Gs
open Go.Proofs

/-- A quotient's digit is no greater than what its first digits say. -/
theorem est_ge {r b : List Dig} (hb : dig b (b.length - 1) ≠ 0) (hlt : val r < 4294967296 * val b) :
    val r / val b ≤ (dig r b.length * 4294967296 + dig r (b.length - 1)) / dig b (b.length - 1) := by
  have hl : 0 < b.length := by
    rcases Nat.eq_zero_or_pos b.length with h | h
    · rw [List.length_eq_zero_iff.1 h] at hb; exact absurd rfl hb
    · exact h
  have e1 := val_split b (b.length - 1)
  have e3 := val_drop_cons b (b.length - 1)
  rw [show b.length - 1 + 1 = b.length by omega, val_drop_out (Nat.le_refl _), Nat.mul_zero, Nat.add_zero] at e3
  have r1 := val_split r (b.length - 1)
  have r2 := val_take_lt r (b.length - 1)
  have r3 := val_drop_cons r (b.length - 1)
  have r4 := val_drop_cons r b.length
  rw [show b.length - 1 + 1 = b.length by omega] at r3
  have hbl := val_lt b
  have hpow : 4294967296 ^ b.length = 4294967296 ^ (b.length - 1) * 4294967296 := by rw [← Nat.pow_succ]; congr 1; omega
  have r5 : val (r.drop (b.length + 1)) = 0 := by
    rw [val_drop]
    refine Nat.div_eq_of_lt (Nat.lt_trans hlt ?_)
    rw [Nat.pow_succ, Nat.mul_comm]
    exact Nat.mul_lt_mul_of_pos_right hbl (by decide)
  rw [r5, Nat.mul_zero, Nat.add_zero] at r4
  rw [r4] at r3
  rw [e3] at e1
  rw [r3] at r1
  have hp := pow_pos' (b.length - 1)
  generalize 4294967296 ^ (b.length - 1) = p at *
  generalize dig b (b.length - 1) = t at *
  generalize dig r (b.length - 1) = x at *
  generalize dig r b.length = y at *
  rw [Nat.le_div_iff_mul_le (by omega)]
  have h6 := Nat.div_mul_le_self (val r) (val b)
  generalize val r / val b = q at *
  have h7 : q * (p * t) ≤ q * val b := Nat.mul_le_mul_left _ (by omega)
  have h8 : p * (q * t) < p * (x + 4294967296 * y + 1) := by
    have : q * (p * t) = p * (q * t) := by rw [← Nat.mul_assoc, Nat.mul_comm q p, Nat.mul_assoc]
    rw [Nat.mul_add p _ 1]
    omega
  have := Nat.lt_of_mul_lt_mul_left h8
  omega

theorem minL_dig {a q : Nat} {e : Int} (he : e = a) (ha : q ≤ a) (hb : q < 4294967296) : ∃ m : Nat, m < 4294967296 ∧ q ≤ m ∧ minL e [4294967295] = m := by
  rcases Int.le_total e 4294967295 with h | h
  · exact ⟨a, by omega, ha, by simp only [minL]; rw [Int.min_eq_left h, he]⟩
  · exact ⟨4294967295, by omega, by omega, by simp only [minL]; rw [Int.min_eq_right h]; simp⟩

set_option maxRecDepth 100000 in
theorem r1_often (r b : List Dig) (hr : r.length ≤ 800000000) (hb : b.length ≤ 800000000) (ht : dig b (b.length - 1) ≠ 0) (hlt : val r < 4294967296 * val b) :
    CallsG Tryz.prog 107 [.sl dgE r, .sl dgE b] [] (.tup [u64 ((val r / val b : Nat) : Int), .own 0]) [(0, dArr (digs (val r % val b)))] := by
  refine calls_own tok mix Tryz.func107 rfl rfl rfl ?_
  have hl : 0 < b.length := by
    rcases Nat.eq_zero_or_pos b.length with h | h
    · rw [List.length_eq_zero_iff.1 h] at ht; exact absurd rfl ht
    · exact h
  have hbp : 0 < val b := by
    rcases Nat.eq_zero_or_pos (val b) with h | h
    · rw [h] at hlt; omega
    · exact h
  have hest := est_ge ht hlt
  have hq : val r / val b < 4294967296 := by rw [Nat.div_lt_iff_lt_mul hbp]; exact hlt
  have d1 := dig_lt r b.length
  have d2 := dig_lt r (b.length - 1)
  have d3 := dig_lt b (b.length - 1)
  intro hl0
  refine Dr.mk (by decide +kernel) ?_
  refine CallV.to _ (r1_digit r _ (by omega)) rfl ?_
  rw [Int.toNat_natCast]
  refine Ob.mk (by decide) ?_
  refine Ar.fit (by simp only [Int.reducePow]; omega) ?_
  refine Ar.fit (by omega) ?_
  refine CallV.to _ (r1_digit r _ (by omega)) rfl ?_
  rw [show ((b.length : Int) - 1).toNat = b.length - 1 by omega]
  refine Ar.fit (by simp only [Int.reducePow]; omega) ?_
  refine Ar.fit (by omega) ?_
  refine Ob.mk (by omega) ?_
  intro x hx
  rw [show ((b.length : Int) - 1).toNat = b.length - 1 by omega] at hx
  have dx := dig_some hx
  rw [dx] at ht hest d3
  refine Ar.fit (by omega) ?_
  refine Dv.pos ⟨by simp only [Int.reducePow]; omega, by omega, by show _ ≤ (18446744073709551615 : Int); simp only [Int.reducePow]; omega⟩ ?_
  obtain ⟨m, hm1, hm2, em⟩ := minL_dig (e := ((dig r b.length : Nat) * 2 ^ 32 + (dig r (b.length - 1) : Nat) : Int) / ((x.val : Nat) : Int)) (by simp) hest hq
  clear hest
  refine CallV.to _ (show CallsG Tryz.prog _ [.sl dgE b, u64 (minL (((dig r b.length : Nat) * 2 ^ 32 + (dig r (b.length - 1) : Nat) : Int) / ((x.val : Nat) : Int)) [4294967295])] [] (.sl dgE (digs (val b * m))) [] by
    rw [em]; exact r1_timesP b m (by omega) (by omega)) rfl ?_
  refine ⟨Nat, fun d => ⟨[(8, u64 d), (9, .sl dgE (digs (val b * d))), (0, .sl dgE r), (1, .sl dgE b)], [], 0, 55, 0⟩, fun d => val r / val b ≤ d ∧ d < 4294967296, fun d => d, m, ?_, ?_, ?_⟩
  · exact ⟨hm2, by omega⟩
  · exact sub_of [] rfl rfl rfl ⟨congrArg (fun n => some (u64 n)) em, rfl, rfl, rfl, trivial⟩ trivial
  rintro d ⟨h1, h2⟩
  have hlen : (digs (val b * d)).length ≤ b.length + 1 := digs_len (by
    rw [Nat.pow_succ]
    exact Nat.mul_lt_mul_of_lt_of_lt (val_lt b) h2)
  refine CallV.to _ (r1_cmp _ r (by omega) (by omega)) rfl ?_
  rw [val_digs]
  refine Br.mk (fun h3 => ?_) (fun h3 => ?_)
  · have h3 := cmpN_gt.1 h3
    have hd : 1 ≤ d := by
      rcases Nat.eq_zero_or_pos d with h | h
      · subst h; omega
      · exact h
    have hq' : val r / val b ≤ d - 1 := by
      have : val r / val b < d := by rw [Nat.div_lt_iff_lt_mul hbp, Nat.mul_comm]; exact h3
      omega
    refine Ar.fit (by omega) ?_
    refine CallV.to _ (r1_subP _ b (by omega) (by omega)) rfl ?_
    rw [val_digs]
    refine ⟨d - 1, ⟨hq', by omega⟩, sub_of [] rfl rfl rfl ⟨congrArg (fun n => some (u64 n)) (by omega), congrArg (fun n => some (SV.sl dgE (digs n))) (show val b * d - val b = val b * (d - 1) by rw [Nat.mul_sub, Nat.mul_one]), rfl, rfl, trivial⟩ trivial, by dsimp only; omega⟩
  · have h3 : val b * d ≤ val r := Nat.le_of_not_lt fun h => h3 (cmpN_gt.2 h)
    have hd : d = val r / val b := by
      have : d ≤ val r / val b := by rw [Nat.le_div_iff_mul_le hbp, Nat.mul_comm]; exact h3
      omega
    refine CallV.fresh _ _ (r1_sub r _ (by omega) (by omega)) rfl (dArr_flat _) (.inr (dArr_scalar _)) ?_
    refine ⟨some 0, take_tup (.cons (take_int (by rw [hd])) (.cons (.own _ rfl) .nil)), ?_, fun _ _ => rfl⟩
    have e : val r - val (digs (val b * d)) = val r % val b := by
      rw [val_digs, hd]
      have := Nat.div_add_mod (val r) (val b)
      omega
    rw [← e]; rfl

end Go.Gs
/- Natural numbers, the other text: quotient and remainder. -/
namespace Go.Gs
open Go.Proofs

theorem div_step {u q V d l w B qd rr nx : Nat} (h : w = V * qd + rr) (hn : nx = u + B * rr) (hd : V * d + l = nx) (hq : q = d + B * qd) : u + B * w = V * q + l := by
  subst h; subst hq; grind

theorem drop_set_self {xs : List Dig} {i : Nat} {d : Dig} (h : i < xs.length) : val ((xs.set i d).drop i) = d.val + 4294967296 * val (xs.drop (i + 1)) := by
  rw [val_drop_cons, dig_set, if_pos ⟨rfl, h⟩, List.drop_set_of_lt (by omega)]

set_option maxRecDepth 100000 in
set_option maxHeartbeats 1000000 in
theorem r1_divmod (a b : List Dig) (ha : a.length ≤ 400000000) (hb : b.length ≤ 400000000) (hb0 : val b ≠ 0) :
    CallsG Tryz.prog 84 [.sl dgE a, .sl dgE b] [] (.tup [.sl dgE (digs (val a / val b)), .sl dgE (digs (val a % val b)), i64 0]) [] := by
  refine calls_to tok mix Tryz.func84 rfl rfl rfl ?_
  refine CallV.to _ (r1_normalizeP _ (by omega)) rfl ?_
  intro hl
  have hlen := digs_val_len b
  refine Br.mk (fun h => ?_) (fun h => ?_)
  · have : digs (val b) = [] := List.length_eq_zero_iff.1 (by omega)
    exact absurd (digs_nil.1 this) hb0
  have hne : digs (val b) ≠ [] := fun e => hb0 (digs_nil.1 e)
  have hnorm := (normd_digs (val b)).resolve_left hne
  have htop := nbits_top hnorm
  rw [val_digs] at htop
  have hbits := nbits_val_le (digs (val b))
  rw [val_digs] at hbits
  have hpos := nbits_pos.2 hb0
  have hnt : 0 < nbits (dig (digs (val b)) ((digs (val b)).length - 1)) := nbits_pos.2 hnorm
  intro hl2
  refine Ar.fit (by omega) ?_
  refine CallV.to _ (r1_bitlen _ (by omega)) rfl ?_
  rw [val_digs]
  refine Ar.fit (by omega) ?_
  obtain ⟨s, hs⟩ : ∃ s : Nat, (32 * ((digs (val b)).length : Int) - (nbits (val b) : Int)) = s := ⟨32 * (digs (val b)).length - nbits (val b), by omega⟩
  rw [hs]
  have hs32 : s < 32 := by omega
  refine CallV.to _ (r1_shlP a s (by omega) (by omega)) rfl ?_
  refine CallV.to _ (r1_shlP (digs (val b)) s (by omega) (by omega)) rfl ?_
  rw [val_digs]
  have hpow : 2 ^ s ≤ 4294967296 ^ 1 := by rw [pow32]; exact Nat.pow_le_pow_right (by decide) (by omega)
  have hpow0 : 0 < 2 ^ s := Nat.pow_pos (by decide)
  have hUl : (digs (val a * 2 ^ s)).length ≤ a.length + 1 := digs_len (by
    rw [Nat.pow_add]
    exact Nat.lt_of_lt_of_le (Nat.mul_lt_mul_of_pos_right (val_lt a) hpow0) (Nat.mul_le_mul_left _ hpow))
  have hVl : (digs (val b * 2 ^ s)).length ≤ b.length + 1 := digs_len (by
    rw [Nat.pow_add]
    exact Nat.lt_of_lt_of_le (Nat.mul_lt_mul_of_pos_right (val_lt b) hpow0) (Nat.mul_le_mul_left _ hpow))
  have hV0 : val b * 2 ^ s ≠ 0 := Nat.mul_ne_zero hb0 (by omega)
  have eq1 : val a / val b = val a * 2 ^ s / (val b * 2 ^ s) := (Nat.mul_div_mul_right _ _ hpow0).symm
  have eq2 : val a % val b = val a * 2 ^ s % (val b * 2 ^ s) / 2 ^ s := by rw [Nat.mul_mod_mul_right, Nat.mul_div_cancel _ hpow0]
  rw [eq1, eq2]
  clear eq1 eq2 hpow hnt hnorm htop hpos hbits
  generalize val a * 2 ^ s = U at *
  generalize val b * 2 ^ s = V at *
  have hvn := (normd_digs V).resolve_left fun e => hV0 (digs_nil.1 e)
  intro hl3
  refine ⟨Dig, dgE, 0, rfl, Ob.mk ⟨by decide, by omega, by omega, (by show _ * (4 : Int) ≤ _; omega), by omega⟩ ?_⟩
  refine ⟨Dig, dgE, [], rfl, Ob.mk dNone ?_⟩
  intro hl4
  refine Ar.fit (by omega) ?_
  refine ⟨Nat × List Dig × List Dig, fun ⟨j, q, r⟩ => ⟨[(13, i64 ((j : Int) - 1)), (12, .own 1), (11, .own 0), (9, .sl dgE (digs U)), (10, .sl dgE (digs V)), (8, i64 s)], [(1, dArr r), (0, dArr q)], 2, 83, 0⟩,
    fun x => x.1 ≤ (digs U).length ∧ x.2.1.length = (digs U).length ∧ x.2.2.length ≤ (digs V).length ∧ val ((digs U).drop x.1) = V * val (x.2.1.drop x.1) + val x.2.2 ∧ val x.2.2 < V, fun x => x.1,
    ((digs U).length, List.replicate (digs U).length 0, []), ?_, ?_, ?_⟩
  · refine ⟨Nat.le_refl _, by simp, by simp, ?_, by dsimp only; rw [val_nil]; omega⟩
    dsimp only
    rw [val_drop_out (Nat.le_refl _), val_drop_out (by simp), val_nil, Nat.mul_zero]
  · exact sub_of [(0, some 0), (1, some 1)] rfl rfl rfl ⟨rfl, rfl, rfl, rfl, rfl, rfl, trivial⟩ ⟨rfl, congrArg (fun n => some (dArr (List.replicate n 0))) (by omega), trivial⟩
  rintro ⟨j, q, r⟩ ⟨g1, g2, g3, g4, g5⟩
  dsimp only at g1 g2 g3 g4 g5
  refine Br.mk (fun k1 => ?_) (fun k1 => ?_)
  · refine Ob.mk (by omega) ?_
    intro x hx
    rw [show ((j : Int) - 1).toNat = j - 1 by omega] at hx
    have dx := dig_some hx
    have hxl := x.isLt
    refine ⟨Dig, dgE, [x], rfl, Ob.mk (dOne x) ?_⟩
    refine ⟨Nat, fun k => ⟨[(15, i64 k), (14, .own 2), (13, i64 ((j : Int) - 1)), (12, .own 1), (11, .own 0), (9, .sl dgE (digs U)), (10, .sl dgE (digs V)), (8, i64 s)], [(2, dArr (x :: r.take k)), (1, dArr r), (0, dArr q)], 3, 83, 0⟩,
      fun k => k ≤ r.length, fun k => r.length - k, 0, ?_, ?_, ?_⟩
    · exact Nat.zero_le _
    · exact sub_of [(0, some 0), (1, some 1), (2, some 2)] rfl rfl rfl ⟨rfl, rfl, rfl, rfl, rfl, rfl, rfl, rfl, trivial⟩ ⟨rfl, rfl, rfl, trivial⟩
    intro k hk
    have hk : k ≤ r.length := hk
    intro hl5
    refine Br.mk (fun k2 => ?_) (fun k2 => ?_)
    · refine Ob.mk (by omega) ?_
      refine Ob.mk (by omega) ?_
      intro y hy
      have hy : r[k]? = some y := hy
      refine ⟨Dig, dgE, [y], rfl, Ob.mk (dOne y) ?_⟩
      refine ⟨_, rfl, Ob.mk (dApp (by simp; omega)) ?_⟩
      refine Ar.fit (by omega) ?_
      refine ⟨k + 1, by show k + 1 ≤ r.length; omega, sub_of [(0, some 0), (1, some 1), (2, some 4)] rfl rfl rfl ⟨rfl, rfl, rfl, rfl, rfl, rfl, rfl, rfl, trivial⟩
        ⟨congrArg (fun l => some (dArr l)) (by rw [List.take_add_one, hy]; rfl), rfl, rfl, trivial⟩, by dsimp only; omega⟩
    · have hkr : k = r.length := by omega
      subst hkr
      have hnx : val (x :: r) < 4294967296 * V := by rw [val_cons]; omega
      have hnl : (digs (val (x :: r))).length ≤ r.length + 1 := digs_val_len (x :: r)
      refine CallV.fresh _ _ (r1_normalize _ (by simp; omega)) rfl (dArr_flat _) (.inr (dArr_scalar _)) ?_
      rw [List.take_length]
      refine CallV.fresh _ _ (r1_often _ (digs V) (by omega) (by omega) hvn (by rw [val_digs, val_digs]; exact hnx)) rfl (dArr_flat _) (.inr (dArr_scalar _)) ?_
      rw [val_digs, val_digs]
      have hdl : val (x :: r) / V < 4294967296 := by rw [Nat.div_lt_iff_lt_mul (by omega)]; exact hnx
      have hml : val (x :: r) % V < V := Nat.mod_lt _ (by omega)
      have hdm := Nat.div_add_mod (val (x :: r)) V
      generalize val (x :: r) / V = dq at *
      generalize hmd : val (x :: r) % V = md at *
      refine Ar.fit (by omega) ?_
      refine Ob.mk (by omega) ?_
      refine Ob.mk (by omega) ?_
      intro z hz
      refine ⟨dof dq, congrArg (fun n => [u32 n]) (by rw [dof_val, Nat.mod_eq_of_lt hdl]), ?_⟩
      refine Ar.fit (by omega) ?_
      refine ⟨(j - 1, q.set (j - 1) (dof dq), digs md), ⟨by dsimp only; omega, by simp [g2], digs_mono (Nat.le_of_lt hml), ?_, by dsimp only; rw [val_digs]; exact hml⟩,
        sub_of [(0, some 0), (1, some 4)] rfl rfl rfl ⟨congrArg (fun n => some (i64 n)) (by omega), rfl, rfl, rfl, rfl, rfl, trivial⟩ ⟨rfl, congrArg (fun n => some (dArr (q.set n _))) (by omega), trivial⟩, by dsimp only; omega⟩
      dsimp only
      rw [val_digs, val_drop_cons (digs U), dx, show j - 1 + 1 = j by omega]
      refine div_step g4 (val_cons x r) hdm ?_
      rw [drop_set_self (by omega), dof_val, Nat.mod_eq_of_lt hdl, show j - 1 + 1 = j by omega]
  · have hj : j = 0 := by omega
    subst hj
    rw [List.drop_zero, List.drop_zero, val_digs] at g4
    refine CallV.fresh _ _ (r1_normalize _ (by omega)) rfl (dArr_flat _) (.inr (dArr_scalar _)) ?_
    refine Ar.fit (by omega) ?_
    refine CallV.fresh _ _ (r1_shr r s (by omega) (by omega)) rfl (dArr_flat _) (.inr (dArr_scalar _)) ?_
    have e1 : val q = U / V := by
      rw [g4, Nat.mul_add_div (by omega), Nat.div_eq_of_lt g5, Nat.add_zero]
    have e2 : val r = U % V := by
      rw [g4, Nat.mul_add_mod, Nat.mod_eq_of_lt g5]
    exact LE_tup (.cons (LE_sl (by rw [e1])) (.cons (LE_sl (by rw [e2])) (.cons .refl .nil)))

end Go.Gs
/- Integers, the other text: what rounded division needs. -/
namespace Go.Gs
open Go.Proofs

def biE (a : BI) : List SV := [pr (a.neg = true), .sl dgE a.mag]

theorem r2_new (p : Prop) [i : Decidable p] (m : List Dig) (hm : m.length ≤ 1000000000) :
    CallsG Tryz.prog 59 [.pr p i, .sl dgE m] [] (.agg (biE (ofZ (if p then -(val m : Int) else val m)))) [] := by
  refine calls_to tok mix Tryz.func59 rfl rfl rfl ?_
  refine CallV.to _ (r1_normalizeP m hm) rfl ?_
  refine Br.mk (fun h => ?_) (fun h => ?_)
  · intro hl
    refine LE_agg (.cons (LE_pr ?_) (.cons (LE_sl ?_) .nil))
    · rw [if_pos h, ofZ_neg]
      have := digs_len_pos (n := val m)
      omega
    · rw [if_pos h, ofZ_mag]; congr 1; omega
  · refine LE_agg (.cons (LE_false ?_) (.cons (LE_sl ?_) .nil))
    · rw [if_neg h, ofZ_neg]; omega
    · rw [if_neg h, ofZ_mag]; congr 1

theorem r2_newv (a : BI) (hm : a.mag.length ≤ 1000000000) :
    CallsG Tryz.prog 59 [pr (a.neg = true), .sl dgE a.mag] [] (.agg (biE (ofZ a.v))) [] := r2_new (a.neg = true) a.mag hm

theorem dTwo (c d : Dig) : [c, d].length = 2 ∧ 2 ≤ 281474976710656 ∧ 2 * 1 ≤ 16777216 ∧ 0 < 1 ∧ ∀ x ∈ [c, d], (dgE x).length = 1 ∧ cellsB (dgE x) = true ∧ flat.flats (dgE x) = true :=
  ⟨rfl, by decide, by decide, by decide, fun _ _ => ⟨rfl, rfl, rfl⟩⟩
theorem val_two (m : Nat) (h : m < 18446744073709551616) : val [dof m, dof (m / 4294967296)] = m := by
  simp only [val, dof_val]; omega

theorem r2_fromint (n : Int) (hn : R64 n) : CallsG Tryz.prog 30 [i64 n] [] (.agg (biE (ofZ n))) [] := by
  refine calls_to tok mix Tryz.func30 rfl rfl rfl ?_
  refine Ar.wrap ?_
  refine Br.mk (fun h => ?_) (fun h => ?_)
  · refine Ar.wrap ?_
    have e : IntKind.u64.wrap (0 - IntKind.u64.wrap n) = ((n.natAbs : Nat) : Int) := by rw [wrap64, wrap64]; omega
    refine Ar.wrap ?_
    refine Ob.mk (by decide) ?_
    refine Ar.wrap ?_
    refine ⟨Dig, dgE, [dof n.natAbs, dof (n.natAbs / 4294967296)], congr (congrArg (fun n m => [u32 n, u32 m]) (dofW e)) (dofW (by rw [e]; simp only [Int.reducePow]; omega)), Ob.mk (dTwo _ _) ?_⟩
    refine CallV.see 1 _ (r2_new (n < 0) [dof n.natAbs, dof (n.natAbs / 4294967296)] (by simp)) rfl rfl rfl ?_
    rw [if_pos h, val_two _ (by omega), show (-(n.natAbs : Int)) = n by omega]
    exact .refl
  · have e : IntKind.u64.wrap n = ((n.natAbs : Nat) : Int) := by rw [wrap64]; omega
    refine Ar.wrap ?_
    refine Ob.mk (by decide) ?_
    refine Ar.wrap ?_
    refine ⟨Dig, dgE, [dof n.natAbs, dof (n.natAbs / 4294967296)], congr (congrArg (fun n m => [u32 n, u32 m]) (dofW e)) (dofW (by rw [e]; simp only [Int.reducePow]; omega)), Ob.mk (dTwo _ _) ?_⟩
    refine CallV.see 1 _ (r2_new (n < 0) [dof n.natAbs, dof (n.natAbs / 4294967296)] (by simp)) rfl rfl rfl ?_
    rw [if_neg h, val_two _ (by omega), show (n.natAbs : Int) = n by omega]
    exact .refl

theorem r2_sign (a : BI) (ha : a.mag.length ≤ 1000000000) : CallsG Tryz.prog 60 [.agg (biE a)] [] (i64 a.v.sign) [] := by
  refine calls_to tok mix Tryz.func60 rfl rfl rfl ?_
  refine CallV.to _ (r2_newv a ha) rfl ?_
  intro hl
  have h1 := digs_len_pos (n := a.v.natAbs)
  refine Br.mk (fun h => ?_) (fun h => ?_)
  · have : a.v = 0 := by rw [ofZ_mag] at h; omega
    exact LE_int (by rw [this]; rfl)
  have h0 : a.v ≠ 0 := by rw [ofZ_mag] at h; omega
  refine Br.mk (fun h2 => ?_) (fun h2 => ?_)
  · rw [ofZ_neg] at h2
    exact LE_int (Int.sign_eq_neg_one_of_neg h2).symm
  · rw [ofZ_neg] at h2
    exact LE_int (Int.sign_eq_one_of_pos (by omega)).symm

/-- The sign of a product. -/
theorem v_mul (a b : BI) : (if ¬ (a.neg = true ↔ b.neg = true) then -((val a.mag * val b.mag : Nat) : Int) else ((val a.mag * val b.mag : Nat) : Int)) = a.v * b.v := by
  rcases a.v_eq with ⟨h1, h2⟩ | ⟨h1, h2⟩ <;> rcases b.v_eq with ⟨h3, h4⟩ | ⟨h3, h4⟩ <;> simp [h1, h2, h3, h4, Int.neg_mul, Int.mul_neg]

theorem r2_mul (a b : BI) (ha : a.mag.length ≤ 400000000) (hb : b.mag.length ≤ 400000000) : CallsG Tryz.prog 33 [.agg (biE a), .agg (biE b)] [] (.agg (biE (ofZ (a.v * b.v)))) [] := by
  refine calls_to tok mix Tryz.func33 rfl rfl rfl ?_
  refine Dr.mk (by decide +kernel) ?_
  refine CallV.to _ (r1_mulP a.mag b.mag ha hb) rfl ?_
  have hl : (digs (val a.mag * val b.mag)).length ≤ 1000000000 := by
    refine Nat.le_trans (digs_len (k := a.mag.length + b.mag.length) ?_) (by omega)
    rw [Nat.pow_add]; exact Nat.mul_lt_mul_of_lt_of_lt (val_lt _) (val_lt _)
  refine CallV.to _ (r2_new (¬ (a.neg = true ↔ b.neg = true)) _ hl) rfl ?_
  rw [val_digs, v_mul]
  exact .refl

end Go.Gs
/- Rounded division, the other text. -/
namespace Go.Gs
open Go.Proofs

theorem v_rdiv (a b : BI) (hb : b.v ≠ 0) : (if ¬ (a.neg = true ↔ b.neg = true) then -(((val a.mag + val a.mag + val b.mag) / (val b.mag + val b.mag) : Nat) : Int) else (((val a.mag + val a.mag + val b.mag) / (val b.mag + val b.mag) : Nat) : Int)) = rdiv a.v b.v := by
  unfold rdiv
  rw [BI.v_abs, BI.v_abs, Nat.two_mul, Nat.two_mul]
  by_cases h0 : val a.mag = 0
  · have e : (val a.mag + val a.mag + val b.mag) / (val b.mag + val b.mag) = 0 := by
      rw [h0]
      refine Nat.div_eq_of_lt ?_
      rcases b.v_eq with ⟨h1, h2⟩ | ⟨h1, h2⟩ <;> omega
    rw [e]; simp
  · generalize ((val a.mag + val a.mag + val b.mag) / (val b.mag + val b.mag)) = q
    have e : (a.neg = true ↔ b.neg = true) ↔ (a.v < 0 ↔ b.v < 0) := by
      rcases a.v_eq with ⟨h1, h2⟩ | ⟨h1, h2⟩ <;> rcases b.v_eq with ⟨h3, h4⟩ | ⟨h3, h4⟩ <;> simp only [h1, h3] <;> simp <;> omega
    by_cases h : (a.v < 0 ↔ b.v < 0)
    · rw [if_neg (not_not_intro (e.2 h)), if_pos h]
    · rw [if_pos (fun hh => h (e.1 hh)), if_neg h]

theorem dadd_len {a b : List Dig} {k : Nat} (ha : a.length ≤ k) (hb : b.length ≤ k) : (digs (val a + val b)).length ≤ k + 1 := by
  refine digs_len ?_
  have h1 := Nat.lt_of_lt_of_le (val_lt a) (Nat.pow_le_pow_right (show 0 < 4294967296 by decide) ha)
  have h2 := Nat.lt_of_lt_of_le (val_lt b) (Nat.pow_le_pow_right (show 0 < 4294967296 by decide) hb)
  rw [Nat.pow_succ]; omega

set_option maxRecDepth 100000 in
theorem r2_divround (a b : BI) (ha : a.mag.length ≤ 300000000) (hb : b.mag.length ≤ 300000000) (h0 : b.v ≠ 0) :
    CallsG Tryz.prog 121 [.agg (biE a), .agg (biE b)] [] (.tup [.agg (biE (ofZ (rdiv a.v b.v))), i64 0]) [] := by
  refine calls_to tok mix Tryz.func121 rfl rfl rfl ?_
  refine CallV.to _ (r2_sign b (by omega)) rfl ?_
  refine Br.mk (fun h => absurd (Int.sign_eq_zero_iff_zero.1 h) h0) (fun _ => ?_)
  refine Dr.mk (by decide +kernel) ?_
  have l1 := dadd_len ha ha
  have l2 := dadd_len hb hb
  have l3 := dadd_len l1 (show b.mag.length ≤ _ by omega)
  rw [val_digs] at l3
  have hbp : val b.mag + val b.mag ≠ 0 := by rcases b.v_eq with ⟨h1, h2⟩ | ⟨h1, h2⟩ <;> omega
  refine CallV.to _ (r1_addP a.mag a.mag (by omega) (by omega)) rfl ?_
  refine CallV.to _ (r1_addP _ b.mag (by omega) (by omega)) rfl ?_
  refine CallV.to _ (r1_addP b.mag b.mag (by omega) (by omega)) rfl ?_
  rw [val_digs]
  refine CallV.to _ (r1_divmod _ _ (by omega) (by omega) (by rw [val_digs]; exact hbp)) rfl ?_
  rw [val_digs, val_digs]
  have l4 : (digs ((val a.mag + val a.mag + val b.mag) / (val b.mag + val b.mag))).length ≤ 1000000000 := Nat.le_trans (digs_mono (Nat.div_le_self _ _)) (by omega)
  refine CallV.to _ (r2_new (¬ (a.neg = true ↔ b.neg = true)) _ l4) rfl ?_
  rw [val_digs, v_rdiv a b h0]
  exact .refl

theorem or_nat {x y : Nat} (hx : x < 18446744073709551616) (hy : y < 18446744073709551616) : bitsK .or .u64 x y = ((x ||| y : Nat) : Int) := by
  show IntKind.u64.wrap ((BitVec.ofInt 64 x ||| BitVec.ofInt 64 y).toNat : Nat) = _
  have h : x ||| y < 2 ^ 64 := Nat.or_lt_two_pow hx hy
  have e : (BitVec.ofInt 64 x ||| BitVec.ofInt 64 y).toNat = x ||| y := by
    rw [BitVec.toNat_or, BitVec.toNat_ofInt, BitVec.toNat_ofInt]
    congr 1
    · omega
    · omega
  rw [e, wrap64]; omega

/-- An integer of the machine, where it is one. -/
def fitI (z : Int) : Int := if -9223372036854775808 ≤ z ∧ z ≤ 9223372036854775807 then z else 0

set_option maxRecDepth 100000 in
theorem r2_toint (a : BI) (ha : a.mag.length ≤ 1000000000) :
    CallsG Tryz.prog 55 [.agg (biE a)] [] (.tup [i64 (fitI a.v), pr (-9223372036854775808 ≤ a.v ∧ a.v ≤ 9223372036854775807)]) [] := by
  refine calls_to tok mix Tryz.func55 rfl rfl rfl ?_
  refine CallV.to _ (r2_newv a ha) rfl ?_
  generalize a.v = z
  have bad : ¬ (-9223372036854775808 ≤ z ∧ z ≤ 9223372036854775807) → LE (.tup [i64 0, bl false]) (.tup [i64 (fitI z), pr (-9223372036854775808 ≤ z ∧ z ≤ 9223372036854775807)]) := fun h =>
    LE_tup2 (LE_int (by rw [fitI, if_neg h])) (LE_false h)
  refine ⟨Nat, fun i => ⟨[(6, i64 i), (5, u64 (val ((digs z.natAbs).take i))), (4, .loc 1 0)], [(1, .box 27 (biE (ofZ z))), (0, .box 27 (biE a))], 2, 51, 0⟩,
    fun i => i ≤ 2 ∧ i ≤ (digs z.natAbs).length, fun i => 2 - i, 0, ?_, ?_, ?_⟩
  · exact ⟨by omega, Nat.zero_le _⟩
  · exact sub_of [(0, some 0), (1, some 1)] rfl rfl rfl ⟨rfl, rfl, rfl, trivial⟩ ⟨rfl, rfl, trivial⟩
  rintro i ⟨h1, h2⟩
  intro hl
  refine Br.mk (fun h3 => ?_) (fun h3 => ?_)
  · have h3 : i < (digs z.natAbs).length := by rw [ofZ_mag] at h3; omega
    refine Br.mk (fun h4 => ?_) (fun h4 => ?_)
    · refine bad fun h5 => ?_
      have := digs_len (n := z.natAbs) (k := 2) (by rw [show 4294967296 ^ 2 = 18446744073709551616 by decide]; omega)
      omega
    · refine Ob.mk (by rw [ofZ_mag]; omega) ?_
      intro x hx
      have hx : (digs z.natAbs)[i]? = some x := hx
      have dx := dig_some hx
      have hxl := x.isLt
      have ht := val_take_lt (digs z.natAbs) i
      have hts := val_take_succ (digs z.natAbs) i
      rw [dx] at hts
      have key : ∀ n : Int, n = 32 * i → 0 ≤ n ∧ n < 64 ∧ 0 ≤ (x.val : Int) * 2 ^ n.toNat ∧ (x.val : Int) * 2 ^ n.toNat ≤ 18446744073709551615 ∧
          bitsK .or .u64 (val ((digs z.natAbs).take i)) ((x.val : Int) * 2 ^ n.toNat) = val ((digs z.natAbs).take (i + 1)) := fun n hn => by
        have : i = 0 ∨ i = 1 := by omega
        rcases this with rfl | rfl
        · have : n = 0 := by omega
          subst this
          rw [hts]
          have e := or_nat (x := 0) (y := x.val) (by omega) (by omega)
          have p : (x.val : Int) * 2 ^ (0 : Int).toNat = (x.val : Int) := by simp
          rw [p, val_take_zero]
          refine ⟨by omega, by omega, by omega, by omega, ?_⟩
          rw [e]; simp
        · have : n = 32 := by omega
          subst this
          rw [hts]
          have e := or_nat (x := val ((digs z.natAbs).take 1)) (y := 4294967296 * x.val) (by omega) (by omega)
          have e2 := Nat.two_pow_add_eq_or_of_lt (i := 32) (b := val ((digs z.natAbs).take 1)) (by rw [show 2 ^ 32 = 4294967296 by decide]; omega) x.val
          rw [show 2 ^ 32 = 4294967296 by decide] at e2
          have e3 : (x.val : Int) * 2 ^ (32 : Int).toNat = ((4294967296 * x.val : Nat) : Int) := by
            rw [show (32 : Int).toNat = 32 by decide]; simp only [Int.reducePow]; omega
          rw [e3]
          refine ⟨by omega, by omega, by omega, by omega, ?_⟩
          rw [e, Nat.or_comm, ← e2]
          omega
      obtain ⟨k1, k2, k3, k4, k5⟩ := key (32 * i) rfl
      refine Ar.fit (by omega) ?_
      refine Ar.fit (by omega) ?_
      refine Ar.fit (by omega) ?_
      refine Ob.mk ⟨k1, k2⟩ ?_
      refine Ar.fit ⟨k3, k4⟩ ?_
      refine ⟨_, k5.symm, ?_⟩
      refine Ar.fit (by omega) ?_
      exact ⟨i + 1, ⟨by omega, by omega⟩, sub_of [(0, some 0), (1, some 1)] rfl rfl rfl ⟨rfl, rfl, rfl, trivial⟩ ⟨rfl, rfl, trivial⟩, by dsimp only; omega⟩
  · have h4 : (digs z.natAbs).length = i := by rw [ofZ_mag] at h3; omega
    have e : val ((digs z.natAbs).take i) = z.natAbs := by rw [val_take_all (by omega), val_digs]
    have hz : z.natAbs < 18446744073709551616 := by
      have := val_take_lt (digs z.natAbs) i
      rw [e] at this
      refine Nat.lt_of_lt_of_le this (Nat.le_trans (Nat.pow_le_pow_right (by decide) h1) (by decide))
    have good : ∀ n : Int, n = z → -9223372036854775808 ≤ z ∧ z ≤ 9223372036854775807 → LE (.tup [i64 n, bl true]) (.tup [i64 (fitI z), pr (-9223372036854775808 ≤ z ∧ z ≤ 9223372036854775807)]) := fun n hn h =>
      LE_tup2 (LE_int (by rw [fitI, if_pos h, hn])) (LE_true h)
    have hn := ofZ_neg z
    refine Br.mk (fun g1 => ?_) (fun g1 => ?_)
    · rw [hn] at g1
      refine Br.mk (fun g2 => ?_) (fun g2 => ?_)
      · refine Ar.wrap ?_
        refine Ar.wrap ?_
        refine good _ ?_ (by omega)
        rw [e, wrap64]
        show IntKind.i64.wrap _ = _
        simp only [IntKind.wrap, IntKind.bits, IntKind.signed]
        simp
        omega
      · refine Br.mk (fun g3 => absurd (hn.2 g1) g3) (fun _ => bad (by omega))
    · refine Br.mk (fun g3 => ?_) (fun g3 => absurd (fun h => g1 h) g3)
      rw [hn] at g1
      refine Br.mk (fun g2 => ?_) (fun g2 => bad (by omega))
      refine Ar.fit (by omega) ?_
      exact good _ (by omega) (by omega)

end Go.Gs
/- Rounded division of machine integers: two texts, one answer. -/
namespace Go.Gs
open Go.Proofs

theorem fitI_range (z : Int) : R64 (fitI z) := by
  unfold fitI; split
  · assumption
  · decide

theorem r8_muldiv (a b c : Int) (ha : R64 a) (hb : R64 b) (hc : R64 c) : CallsG Tryz.prog 104 [i64 a, i64 b, i64 c] []
    (.tup [i64 (fitI (rdiv (a * b) c)), pr (c ≠ 0 ∧ -9223372036854775808 ≤ rdiv (a * b) c ∧ rdiv (a * b) c ≤ 9223372036854775807)]) [] := by
  refine calls_to tok mix Tryz.func104 rfl rfl rfl ?_
  refine Br.mk (fun h => ?_) (fun h => ?_)
  · refine LE_tup2 (LE_int ?_) (LE_false fun h' => h'.1 h)
    subst h
    simp [rdiv, fitI]
  have l1 := zlen_i64 ha
  have l2 := zlen_i64 hb
  have l3 := zlen_i64 hc
  have l4 := zlen_mul a b
  unfold zlen at l1 l2 l3 l4
  refine CallV.to _ (r2_fromint a ha) rfl ?_
  refine CallV.to _ (r2_fromint b hb) rfl ?_
  refine CallV.to _ (r2_mul (ofZ a) (ofZ b) (by rw [ofZ_mag]; omega) (by rw [ofZ_mag]; omega)) rfl ?_
  rw [ofZ_v, ofZ_v]
  refine CallV.to _ (r2_fromint c hc) rfl ?_
  refine CallV.to _ (r2_divround (ofZ (a * b)) (ofZ c) (by rw [ofZ_mag]; omega) (by rw [ofZ_mag]; omega) (by rw [ofZ_v]; exact h)) rfl ?_
  rw [ofZ_v, ofZ_v]
  have l5 : (digs (rdiv (a * b) c).natAbs).length ≤ 6 := by
    refine digs_len (Nat.lt_of_le_of_lt (m := 2 * (a * b).natAbs + c.natAbs) ?_ ?_)
    · rw [rdiv_abs]; exact Nat.div_le_self _ _
    · have p1 := zlen_lt (z := a * b) (k := 4) (by unfold zlen; omega)
      have e4 : 4294967296 ^ 4 = 340282366920938463463374607431768211456 := by decide
      have e6 : 4294967296 ^ 6 = 6277101735386680763835789423207666416102355444464034512896 := by decide
      rw [e4] at p1
      rw [e6]; omega
  refine CallV.to _ (r2_toint (ofZ (rdiv (a * b) c)) (by rw [ofZ_mag]; omega)) rfl ?_
  rw [ofZ_v]
  exact LE_tup2 .refl (LE_pr ⟨fun g => ⟨h, g⟩, fun g => g.2⟩)

theorem r8_divround (a b : Int) (ha : R64 a) (hb : R64 b) : CallsG Tryz.prog 82 [i64 a, i64 b] [] (i64 (fitI (rdiv a b))) [] := by
  refine calls_to tok mix Tryz.func82 rfl rfl rfl ?_
  refine CallV.to _ (r8_muldiv a 1 b ha (by decide) hb) rfl ?_
  rw [Int.mul_one]
  exact .refl

/-! ### The program's -/
theorem c_size64 (n : Int) (hn : R64 n) : CallsG Tryz.prog 101 [i64 n] [] (u64 (n.natAbs : Nat)) [] := by
  refine calls_to tok mix Tryz.func101 rfl rfl rfl ?_
  refine Br.mk (fun h => ?_) (fun h => ?_)
  · refine Ar.wrap ?_
    refine Ar.wrap ?_
    exact LE_int (by rw [wrap64, wrap64]; omega)
  · refine Ar.fit (by omega) ?_
    exact LE_int (by omega)

theorem and32 (x : Nat) : bitsK .and .u64 x 4294967295 = ((x % 4294967296 : Nat) : Int) := by
  have e : (BitVec.ofInt 64 x &&& BitVec.ofInt 64 4294967295).toNat = x % 4294967296 := by
    rw [BitVec.toNat_and]
    have h1 : (BitVec.ofInt 64 4294967295).toNat = 2 ^ 32 - 1 := by decide
    rw [h1, Nat.and_two_pow_sub_one_eq_mod, BitVec.toNat_ofInt]
    rw [show (2 : Nat) ^ 32 = 4294967296 by decide]
    omega
  show IntKind.u64.wrap ((BitVec.ofInt 64 x &&& BitVec.ofInt 64 4294967295).toNat : Nat) = _
  rw [e, wrap64]; omega

theorem c_mul64 (x y : Nat) (hx : x < 18446744073709551616) (hy : y < 18446744073709551616) :
    CallsG Tryz.prog 100 [u64 x, u64 y] [] (.tup [u64 (x * y / 18446744073709551616 : Nat), u64 (x * y % 18446744073709551616 : Nat)]) [] := by
  refine calls_to tok mix Tryz.func100 rfl rfl rfl ?_
  obtain ⟨k1, k2, k3, k4⟩ := Go.Lib.mul64_hi x y hx hy
  have k0 : (x / 4294967296) * (y % 4294967296) ≤ (x / 4294967296) * (y % 4294967296) + (x % 4294967296) * (y % 4294967296) / 4294967296 := Nat.le_add_right _ _
  have k5 : x * y / 18446744073709551616 < 18446744073709551616 := by
    rw [Nat.div_lt_iff_lt_mul (by decide)]
    exact Nat.mul_lt_mul_of_lt_of_lt hx hy
  refine ⟨_, (and32 x).symm, ?_⟩
  refine Ob.mk (by decide) ?_
  refine ⟨_, (and32 y).symm, ?_⟩
  refine Ob.mk (by decide) ?_
  have ex : (x : Int) / 2 ^ 32 = ((x / 4294967296 : Nat) : Int) := by simp
  have ey : (y : Int) / 2 ^ 32 = ((y / 4294967296 : Nat) : Int) := by simp
  have hc := Go.Lib.half_mul_le (a := x % 4294967296) (b := y / 4294967296) (by omega) (by omega)
  have ha := Go.Lib.half_mul_le (a := x / 4294967296) (b := y / 4294967296) (by omega) (by omega)
  rw [ex, ey]
  generalize hx1 : x / 4294967296 = x1 at *
  generalize hx0 : x % 4294967296 = x0 at *
  generalize hy1 : y / 4294967296 = y1 at *
  generalize hy0 : y % 4294967296 = y0 at *
  refine Ar.fit (by omega) ?_
  refine Ar.fit (by omega) ?_
  refine Ob.mk (by decide) ?_
  have e1 : ((x0 : Int) * (y0 : Int)) / 2 ^ 32 = ((x0 * y0 / 4294967296 : Nat) : Int) := by simp
  rw [e1]
  generalize x0 * y0 / 4294967296 = w0 at *
  refine Ar.fit (by omega) ?_
  have e2 : (x1 : Int) * (y0 : Int) + (w0 : Int) = ((x1 * y0 + w0 : Nat) : Int) := by simp
  rw [e2]
  generalize x1 * y0 + w0 = t at *
  refine ⟨_, (and32 t).symm, ?_⟩
  refine Ob.mk (by decide) ?_
  have e3 : (t : Int) / 2 ^ 32 = ((t / 4294967296 : Nat) : Int) := by simp
  rw [e3]
  refine Ar.fit (by omega) ?_
  refine Ar.fit (by omega) ?_
  refine Ar.fit (by omega) ?_
  refine Ar.fit (by omega) ?_
  refine Ob.mk (by decide) ?_
  have e4 : (((t % 4294967296 : Nat) : Int) + (x0 : Int) * (y1 : Int)) / 2 ^ 32 = (((t % 4294967296 + x0 * y1) / 4294967296 : Nat) : Int) := by simp
  rw [e4]
  refine Ar.fit (by omega) ?_
  refine Ar.wrap ?_
  refine LE_tup2 (LE_int ?_) (LE_int ?_)
  · rw [← k4]; simp
  · rw [wrap64]; simp

theorem c_div64 (lo y : Nat) (hlo : lo < 18446744073709551616) (hy : y < 18446744073709551616) (h0 : y ≠ 0) :
    CallsG Tryz.prog 120 [u64 (0 : Nat), u64 lo, u64 y] [] (.tup [u64 (lo / y : Nat), u64 (lo % y : Nat)]) [] := by
  refine calls_to tok mix Tryz.func120 rfl rfl rfl ?_
  refine Br.mk (fun h => absurd h (by omega)) (fun _ => ?_)
  refine Br.mk (fun h => absurd h (by omega)) (fun _ => ?_)
  refine Br.mk (fun _ => ?_) (fun h => absurd rfl h)
  refine Dr.mk (by decide +kernel) ?_
  refine Dv.pos ⟨by omega, by omega, by show _ ≤ (18446744073709551615 : Int); omega⟩ ?_
  refine Dv.pos ⟨by omega, by omega⟩ ?_
  exact LE_tup2 (LE_int (by simp)) (LE_int (by simp))

/-- The quotient, rounded half up. -/
def rup (lo by_ : Nat) : Nat := (2 * lo + by_) / (2 * by_)
theorem rup_eq {lo y : Nat} (h0 : y ≠ 0) : rup lo y = if y ≤ 2 * (lo % y) then lo / y + 1 else lo / y := by
  unfold rup
  have e := Nat.div_add_mod lo y
  have hl := Nat.mod_lt lo (Nat.pos_of_ne_zero h0)
  generalize lo / y = q at *
  generalize lo % y = r at *
  subst e
  have p : 2 * (y * q + r) + y = 2 * y * q + (2 * r + y) := by rw [Nat.mul_add, Nat.mul_assoc]; omega
  rw [p, Nat.mul_add_div (by omega)]
  split
  · have : (2 * r + y) / (2 * y) = 1 := by
      rw [Nat.div_eq_iff (by omega)]; omega
    omega
  · have : (2 * r + y) / (2 * y) = 0 := Nat.div_eq_of_lt (by omega)
    omega

theorem c_near (lo y : Nat) (hlo : lo ≤ 9223372036854775808) (hy : y < 18446744073709551616) (h0 : y ≠ 0) :
    CallsG Tryz.prog 103 [.agg [u64 (0 : Nat), u64 lo, u64 y]] [] (.tup [u64 (rup lo y : Nat), bl true]) [] := by
  refine calls_to tok mix Tryz.func103 rfl rfl rfl ?_
  refine Br.mk (fun h => absurd h (by omega)) (fun _ => ?_)
  refine CallV.to _ (c_div64 lo y (by omega) hy h0) rfl ?_
  have hq := Nat.div_le_self lo y
  have hr := Nat.mod_lt lo (Nat.pos_of_ne_zero h0)
  have he := rup_eq (lo := lo) h0
  generalize rup lo y = u at *
  generalize lo / y = q at *
  generalize lo % y = r at *
  refine Ar.fit (by omega) ?_
  refine Br.mk (fun h => ?_) (fun h => ?_)
  · rw [if_pos (by omega)] at he
    refine Ar.fit (by omega) ?_
    exact LE_tup2 (LE_int (by omega)) (LE_yes (by omega))
  · rw [if_neg (by omega)] at he
    exact LE_tup2 (LE_int (by omega)) .refl

theorem c_signed (p : Prop) [i : Decidable p] (lo y : Nat) (hlo : lo ≤ 9223372036854775808) (hy : y < 18446744073709551616) (h0 : y ≠ 0) :
    CallsG Tryz.prog 102 [.pr p i, .val (.func (.func 103) #[.agg #[.int .u64 (0 : Nat), .int .u64 (lo : Nat), .int .u64 (y : Nat)]] #[])] []
      (.tup [i64 (fitI (if p then -(rup lo y : Int) else rup lo y)), pr (-9223372036854775808 ≤ (if p then -(rup lo y : Int) else rup lo y) ∧ (if p then -(rup lo y : Int) else rup lo y) ≤ 9223372036854775807)]) [] := by
  refine calls_to tok mix Tryz.func102 rfl rfl rfl ?_
  refine CallV.to _ (c_near lo y hlo hy h0) rfl ?_
  have hu : rup lo y < 18446744073709551616 := by
    rw [rup_eq h0]
    have := Nat.div_le_self lo y
    split <;> omega
  generalize rup lo y = u at *
  have bad : ∀ z : Int, ¬ (-9223372036854775808 ≤ z ∧ z ≤ 9223372036854775807) → LE (.tup [i64 0, bl false]) (.tup [i64 (fitI z), pr (-9223372036854775808 ≤ z ∧ z ≤ 9223372036854775807)]) := fun z h =>
    LE_tup2 (LE_int (by rw [fitI, if_neg h])) (LE_false h)
  have good : ∀ n z : Int, n = z → -9223372036854775808 ≤ z ∧ z ≤ 9223372036854775807 → LE (.tup [i64 n, bl true]) (.tup [i64 (fitI z), pr (-9223372036854775808 ≤ z ∧ z ≤ 9223372036854775807)]) := fun n z hn h =>
    LE_tup2 (LE_int (by rw [fitI, if_pos h, hn])) (LE_true h)
  refine Br.mk (fun h => bad _ (by split <;> omega)) (fun h => ?_)
  have tail : (u : Int) ≤ 9223372036854775808 → ((u : Int) = 9223372036854775808 → p) → IntKind.i64.wrap (IntKind.u64.wrap (-(u : Int))) = -(u : Int) ∧ (¬ p → (u : Int) ≤ 9223372036854775807) := fun g1 g2 => by
    refine ⟨?_, fun hp => ?_⟩
    · rw [wrap64]
      simp only [IntKind.wrap, IntKind.bits, IntKind.signed]
      simp
      omega
    · by_cases e : (u : Int) = 9223372036854775808
      · exact absurd (g2 e) hp
      · omega
  refine Br.mk (fun h1 => ?_) (fun h1 => ?_)
  · refine Br.mk (fun h2 => bad _ (by rw [if_neg h2]; omega)) (fun h2 => ?_)
    have hp := Decidable.not_not.1 h2
    obtain ⟨t1, t2⟩ := tail (by omega) (fun _ => hp)
    refine Br.mk (fun _ => ?_) (fun h3 => absurd hp h3)
    refine Ar.wrap ?_
    refine Ar.wrap ?_
    exact good _ _ (by rw [if_pos hp]; exact t1) (by rw [if_pos hp]; omega)
  · obtain ⟨t1, t2⟩ := tail (by omega) (fun h => absurd h h1)
    refine Br.mk (fun h3 => ?_) (fun h3 => ?_)
    · refine Ar.wrap ?_
      refine Ar.wrap ?_
      exact good _ _ (by rw [if_pos h3]; exact t1) (by rw [if_pos h3]; omega)
    · have := t2 h3
      refine Ar.fit (by omega) ?_
      exact good _ _ (by rw [if_neg h3]) (by rw [if_neg h3]; omega)

theorem rdiv_rup (a c : Int) : (if ¬ (¬ (a < 0 ↔ (1 : Int) < 0) ↔ c < 0) then -(rup a.natAbs c.natAbs : Int) else (rup a.natAbs c.natAbs : Int)) = rdiv a c := by
  unfold rdiv
  show _ = if a < 0 ↔ c < 0 then ((rup a.natAbs c.natAbs : Nat) : Int) else -((rup a.natAbs c.natAbs : Nat) : Int)
  generalize (rup a.natAbs c.natAbs : Int) = u
  by_cases h1 : a < 0 <;> by_cases h2 : c < 0 <;> simp [h1, h2]

theorem c_muldiv1 (a c : Int) (ha : R64 a) (hc : R64 c) : CallsG Tryz.prog 79 [i64 a, i64 1, i64 c] []
    (.tup [i64 (fitI (rdiv a c)), pr (c ≠ 0 ∧ -9223372036854775808 ≤ rdiv a c ∧ rdiv a c ≤ 9223372036854775807)]) [] := by
  refine calls_to tok mix Tryz.func79 rfl rfl rfl ?_
  refine Br.mk (fun h => ?_) (fun h => ?_)
  · refine LE_tup2 (LE_int ?_) (LE_false fun h' => h'.1 h)
    subst h
    simp [rdiv, fitI]
  refine CallV.to _ (c_size64 a ha) rfl ?_
  refine CallV.to _ (c_size64 1 (by decide)) rfl ?_
  refine CallV.to _ (c_mul64 a.natAbs (1 : Int).natAbs (by omega) (by omega)) rfl ?_
  rw [show (1 : Int).natAbs = 1 by rfl, Nat.mul_one, Nat.div_eq_of_lt (show a.natAbs < 18446744073709551616 by omega), Nat.mod_eq_of_lt (show a.natAbs < 18446744073709551616 by omega)]
  refine CallV.to _ (c_size64 c hc) rfl ?_
  refine CallV.to _ (c_signed (¬ (¬ (a < 0 ↔ (1 : Int) < 0) ↔ c < 0)) a.natAbs c.natAbs (by omega) (by omega) (by omega)) rfl ?_
  rw [rdiv_rup a c]
  exact LE_tup2 .refl (LE_pr ⟨fun g => ⟨h, g⟩, fun g => g.2⟩)

theorem c_divround (a b : Int) (ha : R64 a) (hb : R64 b) : CallsG Tryz.prog 53 [i64 a, i64 b] [] (i64 (fitI (rdiv a b))) [] := by
  refine calls_to tok mix Tryz.func53 rfl rfl rfl ?_
  refine CallV.to _ (c_muldiv1 a b ha hb) rfl ?_
  exact .refl

end Go.Gs
