/- What one symbolic value says of another; integers. -/
import Derived.Test.YtjfbljononkmcaaGreatTab
namespace Go.Gs

abbrev i64 (n : Int) : SV := .val (.int .i64 n)
abbrev u8 (n : Int) : SV := .val (.int .u8 n)
abbrev bl (b : Bool) : SV := .val (.bool b)
abbrev pr (p : Prop) [i : Decidable p] : SV := .pr p i
abbrev R64 (n : Int) : Prop := -9223372036854775808 ≤ n ∧ n ≤ 9223372036854775807
abbrev R8 (n : Int) : Prop := 0 ≤ n ∧ n ≤ 255

theorem LE.refl {s : SV} : LE s s := fun _ _ _ _ _ h => h
theorem LE_of_eq {s r : SV} (h : s = r) : LE s r := h ▸ .refl
theorem LE_int {k : IntKind} {m n : Int} (h : m = n) : LE (.val (.int k m)) (.val (.int k n)) := by subst h; exact .refl
theorem LE_pr {p q : Prop} {i : Decidable p} {j : Decidable q} (h : p ↔ q) : LE (.pr p i) (.pr q j) := fun S Pm ρ w v hg => by
  rw [hg.pr_inv]
  have : @decide p i = @decide q j := by
    by_cases hp : p
    · simp [hp, h.1 hp]
    · have hq : ¬ q := fun hq => hp (h.2 hq)
      simp [hp, hq]
  rw [this]; exact .d _ _ (.pr q j)
theorem LE_true {q : Prop} {j : Decidable q} (h : q) : LE (.val (.bool true)) (.pr q j) := fun S Pm ρ w v hg => by
  rw [hg.val_inv]
  have := G.d (S := S) (Pm := Pm) (ρ := ρ) (w := w) _ _ (.pr q j)
  simpa [h] using this
theorem LE_false {q : Prop} {j : Decidable q} (h : ¬ q) : LE (.val (.bool false)) (.pr q j) := fun S Pm ρ w v hg => by
  rw [hg.val_inv]
  have := G.d (S := S) (Pm := Pm) (ρ := ρ) (w := w) _ _ (.pr q j)
  simpa [h] using this
theorem LE_yes {p : Prop} {i : Decidable p} (h : p) : LE (.pr p i) (.val (.bool true)) := fun S Pm ρ w v hg => by
  rw [hg.pr_inv]; simp only [h, decide_true]; exact .d _ _ (.val _)
theorem LE_no {p : Prop} {i : Decidable p} (h : ¬ p) : LE (.pr p i) (.val (.bool false)) := fun S Pm ρ w v hg => by
  rw [hg.pr_inv]; simp only [h, decide_false]; exact .d _ _ (.val _)
theorem LE_bl {p : Prop} {i : Decidable p} {b : Bool} (h : p ↔ b = true) : LE (.pr p i) (.val (.bool b)) := fun S Pm ρ w v hg => by
  rw [hg.pr_inv]
  have : @decide p i = b := by cases b <;> simp at h ⊢ <;> exact h
  rw [this]; exact .d _ _ (.val _)
theorem LE_blpr {b : Bool} {j : Decidable (b = true)} : LE (.val (.bool b)) (.pr (b = true) j) := fun S Pm ρ w v hg => by
  rw [hg.val_inv]
  have := G.d (S := S) (Pm := Pm) (ρ := ρ) (w := w) _ _ (.pr (b = true) j)
  cases b <;> simpa using this
theorem LE_sl {α : Type} {enc : α → List SV} {xs ys : List α} (h : xs = ys) : LE (.sl enc xs) (.sl enc ys) := by subst h; exact .refl

theorem LE_full {α : Type} {enc : α → List SV} {xs ys : List α} (h : xs = ys) : LE (.full enc xs) (.full enc ys) := by subst h; exact .refl
theorem LE_full_sl {α : Type} {enc : α → List SV} {xs ys : List α} (h : xs = ys) : LE (.full enc xs) (.sl enc ys) := fun S Pm ρ w v hg => by
  subst h
  obtain ⟨a, rfl, hd⟩ := hg.full_inv
  exact .d _ _ hd
theorem LE_nils {α : Type} {enc : α → List SV} : LE .nils (.sl enc []) := fun S Pm ρ w v hg => by
  obtain ⟨a, rfl⟩ := hg.nils_inv
  exact .d _ _ (.nil enc a)
theorem LE_nil0 {α : Type} {enc : α → List SV} : LE (.val (.slice none 0 0)) (.sl enc []) := fun S Pm ρ w v hg => by
  rw [hg.val_inv]; exact .d _ _ (.nil enc none)

inductive LEs : List SV → List SV → Prop
  | nil : LEs [] []
  | cons {a b : SV} {as bs : List SV} (h : LE a b) (t : LEs as bs) : LEs (a :: as) (b :: bs)
theorem LEs.gs {as bs : List SV} (h : LEs as bs) {S Pm : Nat → Prop} {ρ : Names} {w : World} : ∀ {vs : List Value}, Gs S Pm ρ w as vs → Gs S Pm ρ w bs vs := by
  induction h with
  | nil => intro vs h; exact h
  | cons h t ih =>
    intro vs hg
    obtain ⟨v, vs', rfl, h1, h2⟩ := hg.cons_inv
    exact .cons (h _ _ _ _ _ h1) (ih h2)
theorem LE_agg {as bs : List SV} (h : LEs as bs) : LE (.agg as) (.agg bs) := fun S Pm ρ w v hg => by
  obtain ⟨vs, rfl, hvs⟩ := hg.agg_inv
  have := h.gs hvs
  exact .agg _ vs this.1 this.2
theorem LE_tup {as bs : List SV} (h : LEs as bs) : LE (.tup as) (.tup bs) := fun S Pm ρ w v hg => by
  obtain ⟨vs, rfl, hvs⟩ := hg.tup_inv
  have := h.gs hvs
  exact .tup _ vs this.1 this.2
theorem LE_tup2 {a b c d : SV} (h1 : LE a c) (h2 : LE b d) : LE (.tup [a, b]) (.tup [c, d]) := LE_tup (.cons h1 (.cons h2 .nil))
theorem LE.trans {a b c : SV} (h : LE a b) (k : LE b c) : LE a c := fun _ _ _ _ _ g => k _ _ _ _ _ (h _ _ _ _ _ g)

/-- A contract, said with less. -/
theorem CallsG.le {P : Program} {f : FuncId} {args : List SV} {M M' : List (Nat × Mem)} {r r' : SV} (h : CallsG P f args M r M') (hle : LE r r') : CallsG P f args M r' M' :=
  ⟨h.1, fun Keep ρ w vs hk hm hρ hg => (h.2 Keep ρ w vs hk hm hρ hg).mono fun _ _ ⟨v, ρ', e, h1, h2, h3⟩ => ⟨v, ρ', e, h1, h2, hle _ _ _ _ _ h3⟩⟩

/-- A contract asked for with less. -/
theorem CallsG.args {P : Program} {f : FuncId} {args args' : List SV} {M M' : List (Nat × Mem)} {r : SV} (h : CallsG P f args' M r M') (hle : LEs args args') : CallsG P f args M r M' :=
  ⟨h.1, fun Keep ρ w vs hk hm hρ hg => h.2 Keep ρ w vs hk hm hρ (hle.gs hg)⟩
theorem LEs.refl : ∀ {as : List SV}, LEs as as
  | [] => .nil
  | _ :: _ => .cons .refl .refl

inductive Takes (k : Option Nat) : List SV → List SV → Prop
  | nil : Takes k [] []
  | cons {a b : SV} {as bs : List SV} (h : Take k a b) (t : Takes k as bs) : Takes k (a :: as) (b :: bs)
theorem Takes.ix {k : Option Nat} {as bs : List SV} (h : Takes k as bs) : as.length = bs.length ∧ ∀ (j : Nat) (s r : SV), as[j]? = some s → bs[j]? = some r → Take k s r := by
  induction h with
  | nil => exact ⟨rfl, fun j s r h => by simp at h⟩
  | cons h t ih =>
    refine ⟨by simp [ih.1], fun j s r hs hr => ?_⟩
    cases j with
    | zero => simp at hs hr; subst hs; subst hr; exact h
    | succ j => exact ih.2 j s r (by simpa using hs) (by simpa using hr)
theorem take_agg {k : Option Nat} {as bs : List SV} (h : Takes k as bs) : Take k (.agg as) (.agg bs) := .agg _ _ h.ix.1 h.ix.2
theorem take_tup {k : Option Nat} {as bs : List SV} (h : Takes k as bs) : Take k (.tup as) (.tup bs) := .tup _ _ h.ix.1 h.ix.2
theorem take_fn {k : Option Nat} {f : FuncId} {as bs : List SV} (h : Takes k as bs) : Take k (.fn f as) (.fn f bs) := .fn _ _ _ h.ix.1 h.ix.2
theorem take_int {k : Option Nat} {q : IntKind} {m n : Int} (h : m = n) : Take k (.val (.int q m)) (.val (.int q n)) := .le _ _ (LE_int h) rfl

/-! ### Integers -/
theorem tdm {m n : Int} (h : 0 < n) : (0 ≤ m.tmod n ∧ m.tmod n < n ∧ m.tmod n = m % n ∧ m.tdiv n = m / n ∧ (m < 0 → m % n = 0)) ∨
    (m < 0 ∧ m.tmod n < 0 ∧ -n < m.tmod n ∧ m.tmod n + n = m % n ∧ m.tdiv n - 1 = m / n) := by
  have h1 := Int.mul_tdiv_add_tmod m n
  have h2 := Int.tmod_lt_of_pos m h
  have uniq : ∀ q r : Int, n * q + r = m → 0 ≤ r → r < n → r = m % n ∧ q = m / n := fun q r e hr hl => by
    have := (Int.ediv_emod_unique (a := m) (b := n) (q := q) (r := r) h).2 ⟨by omega, hr, hl⟩
    exact ⟨this.2.symm, this.1.symm⟩
  by_cases hm : 0 ≤ m
  · have h3 := Int.tmod_nonneg n hm
    obtain ⟨h4, h5⟩ := uniq _ _ h1 h3 h2
    exact .inl ⟨h3, h2, h4, h5, fun h => by omega⟩
  · have h3 : -n < m.tmod n := by
      have := Int.tmod_lt_of_pos (-m) h
      rw [Int.neg_tmod] at this; omega
    have h6 : m.tmod n ≤ 0 := by
      have := Int.tmod_nonneg n (show 0 ≤ -m by omega)
      rw [Int.neg_tmod] at this; omega
    by_cases h0 : m.tmod n = 0
    · obtain ⟨h4, h5⟩ := uniq _ _ h1 (by omega) h2
      exact .inl ⟨by omega, h2, h4, h5, fun _ => by omega⟩
    · obtain ⟨h4, h5⟩ := uniq (m.tdiv n - 1) (m.tmod n + n) (by rw [Int.mul_sub]; omega) (by omega) (by omega)
      exact .inr ⟨by omega, by omega, h3, h4, h5⟩

theorem tm2 (q : Int) : q.tmod 2 = 0 ↔ q % 2 = 0 := by
  rcases tdm (m := q) (n := 2) (by omega) with h | h <;> omega

/-- The quotient is no greater than the number. -/
theorem tdiv_range {m n : Int} (h : 0 < n) (hm : R64 m) : R64 (m.tdiv n) ∧ (n ≠ 1 → -4611686018427387904 ≤ m.tdiv n) := by
  have h1 := Int.mul_tdiv_add_tmod m n
  have h2 := Int.tmod_lt_of_pos m h
  have h3 : -n < m.tmod n := by
    rcases tdm (m := m) h with h3 | h3 <;> omega
  generalize m.tdiv n = q at *
  generalize m.tmod n = r at *
  refine ⟨⟨?_, ?_⟩, fun hn => ?_⟩
  · rcases Int.lt_or_le q 0 with hq | hq
    · have : n * q ≤ 1 * q := Int.mul_le_mul_of_nonpos_right (by omega) (by omega)
      by_cases e : n = 1
      · subst e; omega
      · have : n * q ≤ 2 * q := Int.mul_le_mul_of_nonpos_right (by omega) (by omega)
        have h5 : n * (q + 1) = n * q + n := by rw [Int.mul_add]; omega
        have h6 : n * (q + 1) ≤ 2 * (q + 1) := by
          rcases Int.lt_or_le (q + 1) 1 with h | h
          · exact Int.mul_le_mul_of_nonpos_right (by omega) (by omega)
          · omega
        omega
    · omega
  · rcases Int.lt_or_le 0 q with hq | hq
    · have h5 : n * (q - 1) = n * q - n := by rw [Int.mul_sub]; omega
      have h6 : 1 * (q - 1) ≤ n * (q - 1) := Int.mul_le_mul_of_nonneg_right (by omega) (by omega)
      omega
    · omega
  · rcases Int.lt_or_le q 0 with hq | hq
    · have h5 : n * (q + 1) = n * q + n := by rw [Int.mul_add]; omega
      have h6 : n * (q + 1) ≤ 2 * (q + 1) := Int.mul_le_mul_of_nonpos_right (by omega) (by omega)
      omega
    · omega

theorem and_one {q : Int} : bitsK .and .i64 q 1 = q % 2 := by
  have e : (BitVec.ofInt 64 q &&& BitVec.ofInt 64 1).toNat = (q % 2).toNat := by
    rw [BitVec.toNat_and]
    have h1 : (BitVec.ofInt 64 1).toNat = 1 := by decide
    rw [h1, Nat.and_one_is_mod, BitVec.toNat_ofInt]
    omega
  show IntKind.i64.wrap ((BitVec.ofInt 64 q &&& BitVec.ofInt 64 1).toNat : Nat) = _
  rw [e]
  have : IntKind.i64.wrap ((q % 2).toNat : Int) = ((q % 2).toNat : Int) := by
    rcases Int.emod_two_eq q with h | h <;> rw [h] <;> decide
  rw [this]; omega

end Go.Gs
/- More of numbers: the low bits of an integer. -/
namespace Go.Gs

theorem and_low {q : Int} (k : Nat) (hk : k ≤ 32) : bitsK .and .i64 q (2 ^ k - 1) = q % 2 ^ k := by
  have hp : (2 : Int) ^ k ≤ 2 ^ 32 := by
    have := Nat.pow_le_pow_right (show 0 < 2 by decide) hk
    exact_mod_cast this
  have hp0 : (1 : Int) ≤ 2 ^ k := by
    have := Nat.one_le_two_pow (n := k)
    exact_mod_cast this
  have hpn : (2 : Nat) ^ k ≤ 2 ^ 32 := Nat.pow_le_pow_right (by decide) hk
  have hpn0 := Nat.one_le_two_pow (n := k)
  have hc : ((2 ^ k : Nat) : Int) = (2 : Int) ^ k := by exact_mod_cast rfl
  have e : (BitVec.ofInt 64 q &&& BitVec.ofInt 64 (2 ^ k - 1)).toNat = (q % 2 ^ k).toNat := by
    rw [BitVec.toNat_and]
    have h1 : (BitVec.ofInt 64 ((2 : Int) ^ k - 1)).toNat = 2 ^ k - 1 := by
      rw [BitVec.toNat_ofInt]; omega
    rw [h1, Nat.and_two_pow_sub_one_eq_mod, BitVec.toNat_ofInt]
    have hd : ((2 : Int) ^ k) ∣ (2 : Int) ^ 64 := ⟨2 ^ (64 - k), by rw [← Int.pow_add]; congr 1; omega⟩
    have h2 : (q % (2 : Int) ^ 64) % 2 ^ k = q % 2 ^ k := Int.emod_emod_of_dvd q hd
    have h3 := Int.emod_nonneg q (show (2 : Int) ^ 64 ≠ 0 by decide)
    have h4 := Int.emod_nonneg q (show (2 : Int) ^ k ≠ 0 by omega)
    have h5 : (((q % (2 : Int) ^ 64).toNat % 2 ^ k : Nat) : Int) = q % 2 ^ k := by
      rw [Int.natCast_emod, hc, Int.toNat_of_nonneg h3, h2]
    show (q % ((2 ^ 64 : Nat) : Int)).toNat % 2 ^ k = _
    have h6 : ((2 ^ 64 : Nat) : Int) = (2 : Int) ^ 64 := by decide
    rw [h6]
    omega
  show IntKind.i64.wrap ((BitVec.ofInt 64 q &&& BitVec.ofInt 64 (2 ^ k - 1)).toNat : Nat) = _
  rw [e]
  have h4 := Int.emod_nonneg q (show (2 : Int) ^ k ≠ 0 by omega)
  have h5 := Int.emod_lt_of_pos q (show (0 : Int) < 2 ^ k by omega)
  rw [Int.toNat_of_nonneg h4]
  generalize q % 2 ^ k = z at *
  simp only [IntKind.wrap, IntKind.bits, IntKind.signed]
  simp
  omega

end Go.Gs
