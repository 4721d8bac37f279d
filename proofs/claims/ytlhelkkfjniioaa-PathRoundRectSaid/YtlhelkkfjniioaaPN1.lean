/- Natural numbers, the other text: digits, comparing, sums, differences, products by one digit. -/
import Derived.Test.YtlhelkkfjniioaaPT0
import Derived.Test.YtlhelkkfjniioaaV
namespace Go.Gs
open Go.Proofs

def dgE (d : Dig) : List SV := [.val (.int .u32 (d.val : Int))]
abbrev u32 (n : Int) : SV := .val (.int .u32 n)
abbrev u64 (n : Int) : SV := .val (.int .u64 n)
/-- A row of digits of one's own. -/
abbrev dArr (xs : List Dig) : Mem := .arr 114 dgE 1 xs
theorem dArr_flat (xs : List Dig) : flatM (dArr xs) := fun _ _ => rfl
theorem dArr_scalar (xs : List Dig) : scalarM (dArr xs) := fun _ _ => rfl
theorem wrap32 (e : Int) : IntKind.u32.wrap e = e % 4294967296 := rfl
theorem wrap64 (e : Int) : IntKind.u64.wrap e = e % 18446744073709551616 := rfl
theorem dgE_len : ∀ x : Dig, (dgE x).length = 1 := fun _ => rfl
theorem dgE_eq {d : Dig} {e : Int} (h : (d.val : Int) = e) : [u32 e] = dgE d := by rw [← h]; rfl
theorem dOne (d : Dig) : [d].length = 1 ∧ 1 ≤ 281474976710656 ∧ 1 * 1 ≤ 16777216 ∧ 0 < 1 ∧ ∀ x ∈ [d], (dgE x).length = 1 ∧ cellsB (dgE x) = true ∧ flat.flats (dgE x) = true :=
  ⟨rfl, by decide, by decide, by decide, fun _ _ => ⟨rfl, rfl, rfl⟩⟩
theorem dNone : ([] : List Dig).length = 0 ∧ 0 ≤ 281474976710656 ∧ 0 * 1 ≤ 16777216 ∧ 0 < 1 ∧ ∀ x ∈ ([] : List Dig), (dgE x).length = 1 ∧ cellsB (dgE x) = true ∧ flat.flats (dgE x) = true :=
  ⟨rfl, by decide, by decide, by decide, fun _ _ => ⟨rfl, rfl, rfl⟩⟩
theorem dApp {xs ys : List Dig} (h : xs.length + ys.length ≤ 2000000000) : ((xs.length + ys.length : Int) * (4 : Nat) ≤ 140737488355328 ∧ xs.length + ys.length ≤ 281474976710656 ∧ 0 < 1 ∧ ∀ x ∈ ys, (dgE x).length = 1) :=
  ⟨by omega, by omega, by decide, fun _ _ => rfl⟩

/-- Which of the two is greater. -/
def cmpN (a b : Nat) : Int := if a < b then -1 else if b < a then 1 else 0

theorem cmpN_lt {a b : Nat} : cmpN a b < 0 ↔ a < b := by
  unfold cmpN; split
  · simp_all
  · split <;> simp_all
theorem cmpN_gt {a b : Nat} : 0 < cmpN a b ↔ b < a := by
  unfold cmpN; split
  · simp; omega
  · split <;> simp_all
theorem cmpN_eq {a b : Nat} : cmpN a b = 0 ↔ a = b := by
  unfold cmpN; split
  · simp; omega
  · split
    · simp; omega
    · simp; omega

theorem r1_normalize (a : List Dig) (ha : a.length ≤ 1000000000) : CallsG Try.prog 118 [.sl dgE a] [] (.own 0) [(0, dArr (digs (val a)))] := by
  refine calls_own tok mix Try.func118 rfl rfl rfl ?_
  intro hl0
  refine ⟨Nat, fun n => ⟨[(3, i64 n), (0, .sl dgE a)], [], 0, 34, 0⟩, fun n => n ≤ a.length ∧ ∀ i, n ≤ i → dig a i = 0, fun n => n, a.length, ?_, ?_, ?_⟩
  · exact ⟨Nat.le_refl _, fun i h => dig_out h⟩
  · exact sub_of [] rfl rfl rfl ⟨rfl, rfl, trivial⟩ trivial
  rintro n ⟨h1, h2⟩
  have post : ∀ (n : Nat), n ≤ a.length → (∀ i, n ≤ i → dig a i = 0) → (n = 0 ∨ dig a (n - 1) ≠ 0) → digs (val a) = a.take n := fun n h1 h2 h3 => (normd_take h3 h1 h2).symm
  refine Br.mk (fun h3 => ?_) (fun h3 => ?_)
  · refine Ar.fit (by omega) ?_
    refine Ob.mk (by omega) ?_
    intro x hx
    refine Br.mk (fun h4 => ?_) (fun h4 => ?_)
    · refine Ar.fit (by omega) ?_
      refine ⟨n - 1, ⟨by omega, fun i hi => ?_⟩, sub_of [] rfl rfl rfl ⟨congrArg (fun n => some (i64 n)) (by omega), rfl, trivial⟩ trivial, by dsimp only; omega⟩
      by_cases e : i = n - 1
      · subst e
        rw [show ((n : Int) - 1).toNat = n - 1 by omega] at hx
        rw [dig_some hx]; omega
      · exact h2 i (by omega)
    · have h5 : dig a (n - 1) ≠ 0 := by
        rw [show ((n : Int) - 1).toNat = n - 1 by omega] at hx
        rw [dig_some hx]; omega
      rw [post n h1 h2 (.inr h5)]
      refine ⟨Dig, dgE, [], rfl, Ob.mk dNone ?_⟩
      refine ⟨Nat, fun i => ⟨[(5, i64 i), (3, i64 n), (4, .own 0), (0, .sl dgE a)], [(0, dArr (a.take i))], 1, 34, 0⟩, fun i => i ≤ n, fun i => n - i, 0, ?_, ?_, ?_⟩
      · exact Nat.zero_le _
      · exact sub_of [(0, some 0)] rfl rfl rfl ⟨rfl, rfl, rfl, rfl, trivial⟩ ⟨rfl, trivial⟩
      rintro i hi
      have hi : i ≤ n := hi
      refine Br.mk (fun k1 => ?_) (fun k1 => ?_)
      · refine Ob.mk (by omega) ?_
        intro y hy
        refine ⟨Dig, dgE, [y], rfl, Ob.mk (dOne y) ?_⟩
        refine ⟨_, rfl, Ob.mk (dApp (by simp; omega)) ?_⟩
        refine Ar.fit (by omega) ?_
        refine ⟨i + 1, by show i + 1 ≤ n; omega, sub_of [(0, some 2)] rfl rfl rfl ⟨rfl, rfl, rfl, rfl, trivial⟩
          ⟨congrArg (fun l => some (dArr l)) (by rw [List.take_add_one, show a[i]? = some y from hy]; rfl), trivial⟩, by dsimp only; omega⟩
      · have hin : i = n := by omega
        subst hin
        exact ⟨some 0, .own _ rfl, rfl, fun _ _ => rfl⟩
  · have h5 : n = 0 := by omega
    rw [post n h1 h2 (.inl h5)]
    refine ⟨Dig, dgE, [], rfl, Ob.mk dNone ?_⟩
    refine ⟨Nat, fun i => ⟨[(5, i64 i), (3, i64 n), (4, .own 0), (0, .sl dgE a)], [(0, dArr (a.take i))], 1, 34, 0⟩, fun i => i ≤ n, fun i => n - i, 0, ?_, ?_, ?_⟩
    · exact Nat.zero_le _
    · exact sub_of [(0, some 0)] rfl rfl rfl ⟨rfl, rfl, rfl, rfl, trivial⟩ ⟨rfl, trivial⟩
    rintro i hi
    have hi : i ≤ n := hi
    refine Br.mk (fun k1 => ?_) (fun k1 => ?_)
    · refine Ob.mk (by omega) ?_
      intro y hy
      refine ⟨Dig, dgE, [y], rfl, Ob.mk (dOne y) ?_⟩
      refine ⟨_, rfl, Ob.mk (dApp (by simp; omega)) ?_⟩
      refine Ar.fit (by omega) ?_
      refine ⟨i + 1, by show i + 1 ≤ n; omega, sub_of [(0, some 2)] rfl rfl rfl ⟨rfl, rfl, rfl, rfl, trivial⟩
        ⟨congrArg (fun l => some (dArr l)) (by rw [List.take_add_one, show a[i]? = some y from hy]; rfl), trivial⟩, by dsimp only; omega⟩
    · have hin : i = n := by omega
      subst hin
      exact ⟨some 0, .own _ rfl, rfl, fun _ _ => rfl⟩

theorem r1_digit (a : List Dig) (i : Int) (hi : 0 ≤ i) : CallsG Try.prog 144 [.sl dgE a, i64 i] [] (u64 (dig a i.toNat)) [] := by
  refine calls_to tok mix Try.func144 rfl rfl rfl ?_
  refine Br.mk (fun h => ?_) (fun h => ?_)
  · omega
  intro hl
  refine Br.mk (fun h2 => ?_) (fun h2 => ?_)
  · exact LE_int (by rw [dig_out (by omega)]; rfl)
  · refine Ob.mk (by omega) ?_
    intro x hx
    have := x.isLt
    refine Ar.fit (by omega) ?_
    exact LE_int (by rw [dig_some hx])

theorem dofW {n : Nat} {e : Int} (h : e = n) : ((dof n).val : Int) = IntKind.u32.wrap e := by rw [wrap32, dof_val, h]; omega

theorem cmp_step {a b : List Dig} {j : Nat} (h : ∀ i, j + 1 ≤ i → dig a i = dig b i) (hl : dig a j < dig b j) : val a < val b := by
  have e1 := val_split a j
  have e2 := val_split b j
  have e3 := val_take_lt a j
  have e4 := val_drop_cons a j
  have e5 := val_drop_cons b j
  have e6 := val_drop_congr h
  have : val (a.drop j) + 1 ≤ val (b.drop j) := by omega
  have := Nat.mul_le_mul_left (4294967296 ^ j) this
  rw [Nat.mul_add] at this
  omega

theorem r1_cmp (a b : List Dig) (ha : a.length ≤ 1000000000) (hb : b.length ≤ 1000000000) :
    CallsG Try.prog 159 [.sl dgE a, .sl dgE b] [] (i64 (cmpN (val a) (val b))) [] := by
  refine calls_to tok mix Try.func159 rfl rfl rfl ?_
  intro hl1 hl2
  refine Ar.fit (by simp only [maxL]; omega) ?_
  refine ⟨Nat, fun j => ⟨[(5, i64 ((j : Int) - 1)), (0, .sl dgE a), (1, .sl dgE b)], [], 0, 30, 0⟩, fun j => j ≤ 1000000000 ∧ ∀ i, j ≤ i → dig a i = dig b i, fun j => j, max a.length b.length, ?_, ?_, ?_⟩
  · exact ⟨by omega, fun i hi => by rw [dig_out (by omega), dig_out (by omega)]⟩
  · exact sub_of [] rfl rfl rfl ⟨congrArg (fun n => some (i64 n)) (by simp only [maxL]; omega), rfl, rfl, trivial⟩ trivial
  rintro j ⟨h1, h2⟩
  refine Br.mk (fun h3 => ?_) (fun h3 => ?_)
  · have e : ((j : Int) - 1).toNat = j - 1 := by omega
    have h2' : ∀ i, j - 1 + 1 ≤ i → dig a i = dig b i := fun i hi => h2 i (by omega)
    refine CallV.to _ (r1_digit a _ (by omega)) rfl ?_
    refine CallV.to _ (r1_digit b _ (by omega)) rfl ?_
    refine Br.mk (fun h4 => ?_) (fun h4 => ?_)
    · have := cmp_step h2' (by rw [e] at h4; omega)
      exact LE_int (by rw [cmpN, if_pos this])
    refine CallV.to _ (r1_digit a _ (by omega)) rfl ?_
    refine CallV.to _ (r1_digit b _ (by omega)) rfl ?_
    refine Br.mk (fun h5 => ?_) (fun h5 => ?_)
    · have := cmp_step (fun i hi => (h2' i hi).symm) (by rw [e] at h5; omega)
      exact LE_int (by rw [cmpN, if_neg (by omega), if_pos this])
    refine Ar.fit (by omega) ?_
    refine ⟨j - 1, ⟨by omega, fun i hi => ?_⟩, sub_of [] rfl rfl rfl ⟨congrArg (fun n => some (i64 n)) (by omega), rfl, rfl, trivial⟩ trivial, by dsimp only; omega⟩
    by_cases hij : i = j - 1
    · subst hij; rw [e] at h4 h5; omega
    · exact h2 i (by omega)
  · have hj : j = 0 := by omega
    subst hj
    have := val_congr fun i => h2 i (Nat.zero_le _)
    exact LE_int (by rw [cmpN, if_neg (by omega), if_neg (by omega)])

set_option maxRecDepth 100000 in
theorem r1_add (a b : List Dig) (ha : a.length ≤ 900000000) (hb : b.length ≤ 900000000) :
    CallsG Try.prog 123 [.sl dgE a, .sl dgE b] [] (.own 0) [(0, dArr (digs (val a + val b)))] := by
  refine calls_own tok mix Try.func123 rfl rfl rfl ?_
  refine ⟨Dig, dgE, [], rfl, Ob.mk dNone ?_⟩
  refine ⟨Nat × List Dig × Nat, fun q => ⟨[(7, i64 q.1), (6, u64 q.2.2), (5, .own 0), (0, .sl dgE a), (1, .sl dgE b)], [(0, dArr q.2.1)], 1, 42, 0⟩,
    fun q => q.1 ≤ max a.length b.length ∧ q.2.1.length = q.1 ∧ q.2.2 ≤ 1 ∧ val q.2.1 + 4294967296 ^ q.1 * q.2.2 = val (a.take q.1) + val (b.take q.1), fun q => max a.length b.length - q.1, (0, [], 0), ?_, ?_, ?_⟩
  · exact ⟨Nat.zero_le _, rfl, Nat.zero_le _, rfl⟩
  · exact sub_of [(0, some 0)] rfl rfl rfl ⟨rfl, rfl, rfl, rfl, rfl, trivial⟩ ⟨rfl, trivial⟩
  rintro ⟨i, out, c⟩ ⟨h1, h2, h3, h4⟩
  dsimp only at h1 h2 h3 h4
  intro hl1 hl2
  refine Br.mk (fun h5 => ?_) (fun h5 => ?_)
  · simp only [maxL] at h5
    have d1 := dig_lt a i
    have d2 := dig_lt b i
    refine CallV.to _ (r1_digit a _ (by omega)) rfl ?_
    refine CallV.to _ (r1_digit b _ (by omega)) rfl ?_
    simp only [Int.toNat_natCast]
    refine Ar.fit (by omega) ?_
    refine Ar.fit (by omega) ?_
    refine Ar.wrap ?_
    refine ⟨Dig, dgE, [dof (dig a i + dig b i + c)], congrArg (fun n => [u32 n]) (dofW (by omega)), Ob.mk (dOne _) ?_⟩
    refine ⟨_, rfl, Ob.mk (dApp (by simp; omega)) ?_⟩
    refine Ob.mk (by decide) ?_
    refine Ar.fit (by omega) ?_
    refine ⟨(i + 1, out ++ [dof (dig a i + dig b i + c)], (dig a i + dig b i + c) / 4294967296), ⟨by dsimp only; omega, by simp [h2], by dsimp only; omega, ?_⟩,
      sub_of [(0, some 2)] rfl rfl rfl ⟨rfl, congrArg (fun n => some (u64 n)) (by dsimp only; omega), rfl, rfl, rfl, trivial⟩ ⟨rfl, trivial⟩, by dsimp only; omega⟩
    dsimp only
    rw [val_snoc, h2, dof_val, val_take_succ, val_take_succ, Nat.pow_succ]
    have e := Nat.div_add_mod (dig a i + dig b i + c) 4294967296
    generalize (dig a i + dig b i + c) / 4294967296 = x at *
    generalize (dig a i + dig b i + c) % 4294967296 = y at *
    generalize 4294967296 ^ i = p at *
    grind
  · simp only [maxL] at h5
    have hi : i = max a.length b.length := by omega
    refine Ar.wrap ?_
    refine ⟨Dig, dgE, [dof c], congrArg (fun n => [u32 n]) (dofW rfl), Ob.mk (dOne _) ?_⟩
    refine ⟨_, rfl, Ob.mk (dApp (by simp; omega)) ?_⟩
    refine CallV.fresh _ _ (r1_normalize _ (by simp; omega)) rfl (dArr_flat _) (.inr (dArr_scalar _)) ?_
    refine ⟨some 3, .own _ rfl, ?_, fun _ _ => rfl⟩
    have e : val (out ++ [dof c]) = val a + val b := by
      rw [val_snoc, h2, dof_val, Nat.mod_eq_of_lt (by omega), h4, val_take_all (by omega), val_take_all (by omega)]
    rw [← e]; rfl

end Go.Gs
