/- Rows of digits of base 2^32, least significant digit first, and the natural numbers that they stand for. -/
import Derived.Test.YtoggmkhegbfjfaaGreatMAJ
namespace Go.Gs

abbrev Dig := Fin 4294967296

/-- What a row of digits stands for. -/
def val : List Dig → Nat
  | [] => 0
  | d :: r => d.val + 4294967296 * val r

/-- The digits of a number, the most significant of which is not zero. -/
def digs (n : Nat) : List Dig :=
  if h : n = 0 then [] else ⟨n % 4294967296, Nat.mod_lt _ (by decide)⟩ :: digs (n / 4294967296)
termination_by n
decreasing_by exact Nat.div_lt_self (Nat.pos_of_ne_zero h) (by decide)

/-- Digit 'i', or 0 beyond the end. -/
def dig (xs : List Dig) (i : Nat) : Nat := match xs[i]? with
  | some d => d.val
  | none => 0

abbrev BB : Nat := 4294967296

theorem pow_pos' (i : Nat) : 0 < 4294967296 ^ i := Nat.pow_pos (by decide)

theorem dig_lt (xs : List Dig) (i : Nat) : dig xs i < 4294967296 := by
  unfold dig; split
  · exact Fin.isLt _
  · decide
theorem dig_some {xs : List Dig} {i : Nat} {d : Dig} (h : xs[i]? = some d) : dig xs i = d.val := by simp [dig, h]
theorem dig_out {xs : List Dig} {i : Nat} (h : xs.length ≤ i) : dig xs i = 0 := by simp [dig, h]
theorem dig_cons_zero (d : Dig) (r : List Dig) : dig (d :: r) 0 = d.val := rfl
theorem dig_cons_succ (d : Dig) (r : List Dig) (i : Nat) : dig (d :: r) (i + 1) = dig r i := by simp [dig]
theorem dig_nil (i : Nat) : dig [] i = 0 := rfl
theorem dig_drop (xs : List Dig) (k i : Nat) : dig (xs.drop k) i = dig xs (k + i) := by simp [dig]
theorem dig_take (xs : List Dig) (k i : Nat) : dig (xs.take k) i = if i < k then dig xs i else 0 := by
  by_cases h : i < k <;> simp [dig, List.getElem?_take, h]
theorem dig_set (xs : List Dig) (i j : Nat) (d : Dig) : dig (xs.set i d) j = if i = j ∧ i < xs.length then d.val else dig xs j := by
  simp only [dig, List.getElem?_set]
  by_cases h : i = j
  · subst h
    by_cases h2 : i < xs.length
    · simp [h2]
    · simp [h2]; 
  · simp [h]
theorem dig_append (xs ys : List Dig) (i : Nat) : dig (xs ++ ys) i = if i < xs.length then dig xs i else dig ys (i - xs.length) := by
  by_cases h : i < xs.length <;> simp [dig, List.getElem?_append, h]
theorem dig_replicate (n i : Nat) : dig (List.replicate n (0 : Dig)) i = 0 := by
  simp only [dig, List.getElem?_replicate]; by_cases h : i < n <;> simp [h]

theorem val_nil : val [] = 0 := rfl
theorem val_cons (d : Dig) (r : List Dig) : val (d :: r) = d.val + 4294967296 * val r := rfl
theorem val_append : ∀ xs ys : List Dig, val (xs ++ ys) = val xs + 4294967296 ^ xs.length * val ys
  | [], ys => by simp [val]
  | x :: xs, ys => by
    simp only [List.cons_append, val, val_append xs ys, List.length_cons, Nat.pow_succ]
    grind
theorem val_lt : ∀ xs : List Dig, val xs < 4294967296 ^ xs.length
  | [] => by simp [val]
  | x :: xs => by
    have h := val_lt xs
    have := x.isLt
    simp only [val, List.length_cons, Nat.pow_succ]
    omega
theorem val_split (xs : List Dig) (i : Nat) : val xs = val (xs.take i) + 4294967296 ^ i * val (xs.drop i) := by
  by_cases h : i ≤ xs.length
  · have := val_append (xs.take i) (xs.drop i)
    rw [List.take_append_drop, List.length_take, Nat.min_eq_left h] at this
    exact this
  · rw [List.take_of_length_le (by omega), List.drop_eq_nil_of_le (by omega)]; simp [val]
theorem val_take_lt (xs : List Dig) (i : Nat) : val (xs.take i) < 4294967296 ^ i := by
  have h := val_lt (xs.take i)
  have : (xs.take i).length ≤ i := by simp; omega
  exact Nat.lt_of_lt_of_le h (Nat.pow_le_pow_right (by decide) this)
theorem val_drop_cons (xs : List Dig) (i : Nat) : val (xs.drop i) = dig xs i + 4294967296 * val (xs.drop (i + 1)) := by
  by_cases h : i < xs.length
  · rw [List.drop_eq_getElem_cons h, val_cons, dig_some (List.getElem?_eq_getElem h)]
  · rw [List.drop_eq_nil_of_le (by omega), List.drop_eq_nil_of_le (by omega), dig_out (by omega)]; rfl
theorem val_take_succ (xs : List Dig) (i : Nat) : val (xs.take (i + 1)) = val (xs.take i) + 4294967296 ^ i * dig xs i := by
  have h1 := val_split xs i
  have h2 := val_split xs (i + 1)
  have h3 := val_drop_cons xs i
  rw [Nat.pow_succ] at h2
  rw [h3] at h1
  generalize 4294967296 ^ i = q at *
  generalize val (xs.take (i + 1)) = a at *
  generalize val (xs.take i) = b at *
  generalize val (xs.drop (i + 1)) = c at *
  have : q * (dig xs i + 4294967296 * c) = q * dig xs i + q * 4294967296 * c := by rw [Nat.mul_add, Nat.mul_assoc]
  omega
theorem val_take_all {xs : List Dig} {i : Nat} (h : xs.length ≤ i) : val (xs.take i) = val xs := by rw [List.take_of_length_le h]
theorem val_take_zero (xs : List Dig) : val (xs.take 0) = 0 := rfl
theorem val_drop_out {xs : List Dig} {i : Nat} (h : xs.length ≤ i) : val (xs.drop i) = 0 := by rw [List.drop_eq_nil_of_le h]; rfl
theorem val_set : ∀ (xs : List Dig) (i : Nat) (d : Dig), i < xs.length → val (xs.set i d) + 4294967296 ^ i * dig xs i = val xs + 4294967296 ^ i * d.val
  | [], i, d, h => by simp at h
  | x :: xs, 0, d, _ => by simp only [List.set_cons_zero, val, dig_cons_zero]; omega
  | x :: xs, i + 1, d, h => by
    have ih := val_set xs i d (by simpa using h)
    simp only [List.set_cons_succ, val, dig_cons_succ, Nat.pow_succ]
    grind
theorem val_snoc (xs : List Dig) (d : Dig) : val (xs ++ [d]) = val xs + 4294967296 ^ xs.length * d.val := by
  rw [val_append]; simp [val]
theorem val_zeros (n : Nat) : val (List.replicate n (0 : Dig)) = 0 := by
  induction n with
  | zero => rfl
  | succ n ih => rw [List.replicate_succ, val_cons, ih]; rfl

theorem digs_zero : digs 0 = [] := by unfold digs; rfl
theorem digs_pos {n : Nat} (h : n ≠ 0) : digs n = ⟨n % 4294967296, Nat.mod_lt _ (by decide)⟩ :: digs (n / 4294967296) := by
  rw [digs]; simp [h]
theorem val_digs (n : Nat) : val (digs n) = n := by
  induction n using Nat.strongRecOn with
  | _ n ih =>
    by_cases h : n = 0
    · subst h; rw [digs_zero]; rfl
    · rw [digs_pos h, val_cons, ih _ (Nat.div_lt_self (Nat.pos_of_ne_zero h) (by decide))]
      show n % 4294967296 + _ = n
      omega

/-- A row whose last digit is not zero. -/
def Normd (xs : List Dig) : Prop := xs = [] ∨ dig xs (xs.length - 1) ≠ 0

theorem normd_val_pos : ∀ {xs : List Dig}, Normd xs → xs ≠ [] → val xs ≠ 0
  | [], _, h => absurd rfl h
  | [x], h, _ => by
    rcases h with h | h
    · cases h
    · have : dig [x] ([x].length - 1) = x.val := rfl
      simp only [val]; omega
  | x :: y :: r, h, _ => by
    have h' : Normd (y :: r) := by
      rcases h with h | h
      · cases h
      · right
        simp only [List.length_cons, Nat.add_sub_cancel] at h ⊢
        rw [dig_cons_succ] at h
        exact h
    have := normd_val_pos h' (by simp)
    rw [val_cons]; omega
theorem digs_val : ∀ {xs : List Dig}, Normd xs → digs (val xs) = xs
  | [], _ => digs_zero
  | x :: r, h => by
    have hp := normd_val_pos h (by simp)
    have h' : Normd r := by
      rcases h with h | h
      · cases h
      · cases r with
        | nil => exact .inl rfl
        | cons y r =>
          right
          simp only [List.length_cons, Nat.add_sub_cancel] at h ⊢
          rw [dig_cons_succ] at h
          exact h
    have hx := x.isLt
    rw [digs_pos hp]
    have e1 : val (x :: r) % 4294967296 = x.val := by rw [val_cons]; omega
    have e2 : val (x :: r) / 4294967296 = val r := by rw [val_cons]; omega
    rw [e2, digs_val h']
    congr 1
    exact Fin.ext e1
theorem normd_digs (n : Nat) : Normd (digs n) := by
  induction n using Nat.strongRecOn with
  | _ n ih =>
    by_cases h : n = 0
    · subst h; rw [digs_zero]; exact .inl rfl
    · have ih := ih _ (Nat.div_lt_self (Nat.pos_of_ne_zero h) (show 1 < 4294967296 by decide))
      right
      rw [digs_pos h]
      rcases ih with ih | ih
      · have e := val_digs (n / 4294967296)
        rw [ih] at e ⊢
        simp only [val] at e
        show n % 4294967296 ≠ 0
        omega
      · by_cases he : digs (n / 4294967296) = []
        · rw [he] at ih; exact absurd (by rfl) ih
        · obtain ⟨y, r, he⟩ := List.exists_cons_of_ne_nil he
          rw [he] at ih ⊢
          simp only [List.length_cons, Nat.add_sub_cancel] at ih ⊢
          rw [dig_cons_succ]; exact ih
/-- Rows without zeros at the end are the same if they stand for the same number. -/
theorem normd_take {xs : List Dig} {n : Nat} (h : n = 0 ∨ dig xs (n - 1) ≠ 0) (hn : n ≤ xs.length) (hz : ∀ i, n ≤ i → dig xs i = 0) : xs.take n = digs (val xs) := by
  have e : val xs = val (xs.take n) := by
    rw [val_split xs n]
    have : val (xs.drop n) = 0 := by
      have key : ∀ k, val (xs.drop (n + k)) = 0 ∨ k ≤ xs.length := fun k => by
        by_cases hk : k ≤ xs.length
        · exact .inr hk
        · exact .inl (val_drop_out (by omega))
      have down : ∀ j, val (xs.drop (n + (xs.length - j))) = 0 := by
        intro j
        induction j with
        | zero => exact val_drop_out (by omega)
        | succ j ih =>
          by_cases hj : j < xs.length
          · rw [val_drop_cons, hz _ (by omega), show n + (xs.length - (j + 1)) + 1 = n + (xs.length - j) by omega, ih]
          · rw [show n + (xs.length - (j + 1)) = n + (xs.length - j) by omega]; exact ih
      have := down xs.length
      simpa using this
    rw [this]; simp
  rw [e, digs_val]
  by_cases hn0 : n = 0
  · subst hn0; exact .inl rfl
  · right
    rw [List.length_take, Nat.min_eq_left hn, dig_take, if_pos (by omega)]
    exact h.resolve_left hn0

theorem digs_len {n k : Nat} (h : n < 4294967296 ^ k) : (digs n).length ≤ k := by
  induction k generalizing n with
  | zero => have : n = 0 := by simpa using h
            subst this; rw [digs_zero]; simp
  | succ k ih =>
    by_cases h0 : n = 0
    · subst h0; rw [digs_zero]; simp
    · rw [digs_pos h0, List.length_cons]
      have : n / 4294967296 < 4294967296 ^ k := by
        rw [Nat.div_lt_iff_lt_mul (by decide)]; rwa [Nat.pow_succ] at h
      have := ih this
      omega
theorem digs_lt {n k : Nat} (h : (digs n).length ≤ k) : n < 4294967296 ^ k := by
  have := val_lt (digs n)
  rw [val_digs] at this
  exact Nat.lt_of_lt_of_le this (Nat.pow_le_pow_right (by decide) h)
theorem digs_val_len (xs : List Dig) : (digs (val xs)).length ≤ xs.length := digs_len (val_lt xs)
theorem digs_nil {n : Nat} : digs n = [] ↔ n = 0 := by
  constructor
  · intro h; have := val_digs n; rw [h] at this; exact this.symm
  · rintro rfl; exact digs_zero
theorem digs_len_pos {n : Nat} : 0 < (digs n).length ↔ n ≠ 0 := by
  rw [List.length_pos_iff, Ne, digs_nil]
theorem digs_ge {n : Nat} (h : n ≠ 0) : 4294967296 ^ ((digs n).length - 1) ≤ n := by
  rcases Nat.lt_or_ge n (4294967296 ^ ((digs n).length - 1)) with h1 | h1
  · have := digs_len h1
    have := digs_len_pos.2 h
    omega
  · exact h1
theorem digs_mono {m n : Nat} (h : m ≤ n) : (digs m).length ≤ (digs n).length := digs_len (Nat.lt_of_le_of_lt h (digs_lt (Nat.le_refl _)))
/-- Digits that are all the same. -/
theorem val_drop_congr {xs ys : List Dig} {k : Nat} (h : ∀ i, k ≤ i → dig xs i = dig ys i) : val (xs.drop k) = val (ys.drop k) := by
  have down : ∀ j, ∀ k', k ≤ k' → max xs.length ys.length ≤ k' + j → val (xs.drop k') = val (ys.drop k') := by
    intro j
    induction j with
    | zero => intro k' _ hk; rw [val_drop_out (by omega), val_drop_out (by omega)]
    | succ j ih =>
      intro k' hk hj
      rw [val_drop_cons, val_drop_cons ys, h k' hk, ih (k' + 1) (by omega) (by omega)]
  exact down (max xs.length ys.length) k (Nat.le_refl _) (by omega)
theorem val_congr {xs ys : List Dig} (h : ∀ i, dig xs i = dig ys i) : val xs = val ys := by
  have := val_drop_congr (k := 0) (xs := xs) (ys := ys) (fun i _ => h i)
  simpa using this
theorem dig_val (xs : List Dig) (i : Nat) : dig xs i = val xs / 4294967296 ^ i % 4294967296 := by
  have h1 := val_split xs i
  have h2 := val_take_lt xs i
  have h3 := val_drop_cons xs i
  have h4 := dig_lt xs i
  have e : val xs / 4294967296 ^ i = val (xs.drop i) := by
    rw [h1, Nat.add_comm, Nat.mul_add_div (pow_pos' i), Nat.div_eq_of_lt h2, Nat.add_zero]
  rw [e, h3]; omega
theorem val_drop (xs : List Dig) (i : Nat) : val (xs.drop i) = val xs / 4294967296 ^ i := by
  have h1 := val_split xs i
  have h2 := val_take_lt xs i
  rw [h1, Nat.add_comm, Nat.mul_add_div (pow_pos' i), Nat.div_eq_of_lt h2, Nat.add_zero]
theorem val_take (xs : List Dig) (i : Nat) : val (xs.take i) = val xs % 4294967296 ^ i := by
  have h1 := val_split xs i
  have h2 := val_take_lt xs i
  rw [h1, Nat.add_mul_mod_self_left, Nat.mod_eq_of_lt h2]

/-- A digit out of a number. -/
def dof (n : Nat) : Dig := ⟨n % 4294967296, Nat.mod_lt _ (by decide)⟩
theorem dof_val (n : Nat) : (dof n).val = n % 4294967296 := rfl

/-- How many binary digits. -/
def nbits (n : Nat) : Nat := if n = 0 then 0 else n.log2 + 1
theorem nbits_lt (n : Nat) : n < 2 ^ nbits n := by
  unfold nbits; split
  · subst_vars; decide
  · exact Nat.lt_log2_self
theorem nbits_ge {n : Nat} (h : n ≠ 0) : 2 ^ (nbits n - 1) ≤ n := by
  unfold nbits; rw [if_neg h]; exact Nat.log2_self_le h
theorem nbits_unique {n k : Nat} (h1 : n < 2 ^ k) (h2 : n ≠ 0) (h3 : 2 ^ (k - 1) ≤ n) : nbits n = k := by
  have a := nbits_lt n
  have b := nbits_ge h2
  have c : 2 ^ (nbits n - 1) < 2 ^ k := Nat.lt_of_le_of_lt b h1
  have d : 2 ^ (k - 1) < 2 ^ nbits n := Nat.lt_of_le_of_lt h3 a
  have c := (Nat.pow_lt_pow_iff_right (by decide : 1 < 2)).1 c
  have d := (Nat.pow_lt_pow_iff_right (by decide : 1 < 2)).1 d
  have : 0 < nbits n := by unfold nbits; rw [if_neg h2]; omega
  have : k ≠ 0 := by rintro rfl; simp at h1; exact h2 h1
  omega
theorem nbits_zero : nbits 0 = 0 := rfl
theorem nbits_pos {n : Nat} : 0 < nbits n ↔ n ≠ 0 := by
  unfold nbits; split <;> omega
theorem pow32 (k : Nat) : 4294967296 ^ k = 2 ^ (32 * k) := by rw [show 4294967296 = 2 ^ 32 by decide, ← Nat.pow_mul]

theorem log2_half {n : Nat} (h : 2 ≤ n) : n.log2 = (n / 2).log2 + 1 := by rw [Nat.log2_def, if_pos h]
theorem nbits_half {n : Nat} (h : n ≠ 0) : nbits n = nbits (n / 2) + 1 := by
  unfold nbits
  rw [if_neg h]
  by_cases h1 : n / 2 = 0
  · rw [if_pos h1]
    have : n = 1 := by omega
    subst this; rfl
  · rw [if_neg h1, log2_half (by omega)]
theorem nbits_top {xs : List Dig} (hn : dig xs (xs.length - 1) ≠ 0) : nbits (val xs) = 32 * (xs.length - 1) + nbits (dig xs (xs.length - 1)) := by
  have hl : 0 < xs.length := by
    rcases Nat.eq_zero_or_pos xs.length with h | h
    · rw [List.length_eq_zero_iff.1 h] at hn; exact absurd rfl hn
    · exact h
  have e1 := val_split xs (xs.length - 1)
  have e2 := val_take_lt xs (xs.length - 1)
  have e3 := val_drop_cons xs (xs.length - 1)
  rw [show xs.length - 1 + 1 = xs.length by omega, val_drop_out (Nat.le_refl _), Nat.mul_zero, Nat.add_zero] at e3
  rw [e3] at e1
  generalize dig xs (xs.length - 1) = t at *
  have p1 := nbits_lt t
  have p2 := nbits_ge hn
  rw [pow32] at e1 e2
  have p0 : 0 < 2 ^ (32 * (xs.length - 1)) := Nat.pow_pos (by decide)
  have np : 0 < nbits t := nbits_pos.2 hn
  refine nbits_unique ?_ ?_ ?_
  · rw [Nat.pow_add]
    have : 2 ^ (32 * (xs.length - 1)) * (t + 1) ≤ 2 ^ (32 * (xs.length - 1)) * 2 ^ nbits t := Nat.mul_le_mul_left _ p1
    rw [Nat.mul_add, Nat.mul_one] at this
    omega
  · have : 2 ^ (32 * (xs.length - 1)) * 1 ≤ 2 ^ (32 * (xs.length - 1)) * t := Nat.mul_le_mul_left _ (by omega)
    omega
  · rw [show 32 * (xs.length - 1) + nbits t - 1 = 32 * (xs.length - 1) + (nbits t - 1) by omega, Nat.pow_add]
    have : 2 ^ (32 * (xs.length - 1)) * 2 ^ (nbits t - 1) ≤ 2 ^ (32 * (xs.length - 1)) * t := Nat.mul_le_mul_left _ p2
    omega
theorem val_of_digs {xs : List Dig} {N : Nat} (h : ∀ j, j < xs.length → dig xs j = N / 4294967296 ^ j % 4294967296) : val xs = N % 4294967296 ^ xs.length := by
  have key : ∀ i, i ≤ xs.length → val (xs.take i) = N % 4294967296 ^ i := by
    intro i
    induction i with
    | zero => intro _; rw [Nat.pow_zero, Nat.mod_one]; rfl
    | succ i ih =>
      intro hi
      rw [val_take_succ, ih (by omega), h i (by omega), Nat.pow_succ, Nat.mod_mul]
  have := key xs.length (Nat.le_refl _)
  rwa [List.take_length] at this
/-- The digits of a number that is shifted right. -/
theorem shr_dig (xs : List Dig) (w s j : Nat) (hs : s < 32) : val xs / 2 ^ (32 * w + s) / 4294967296 ^ j % 4294967296 = (dig xs (w + j + 1) * 4294967296 + dig xs (w + j)) / 2 ^ s % 4294967296 := by
  have e : val xs / 2 ^ (32 * w + s) / 4294967296 ^ j = val (xs.drop (w + j)) / 2 ^ s := by
    rw [val_drop, Nat.div_div_eq_div_mul, Nat.div_div_eq_div_mul]
    congr 1
    rw [pow32, pow32, ← Nat.pow_add, ← Nat.pow_add]
    congr 1; omega
  rw [e, val_drop_cons, val_drop_cons]
  generalize val (xs.drop (w + j + 1 + 1)) = R
  generalize dig xs (w + j + 1) = x
  generalize dig xs (w + j) = y
  have hp : 2 ^ s * 2 ^ (32 - s) = 4294967296 := by rw [← Nat.pow_add, show s + (32 - s) = 32 by omega]
  have : y + 4294967296 * (x + 4294967296 * R) = (x * 4294967296 + y) + 2 ^ s * (2 ^ (32 - s) * 4294967296 * R) := by
    rw [show 2 ^ s * (2 ^ (32 - s) * 4294967296 * R) = (2 ^ s * 2 ^ (32 - s)) * 4294967296 * R by simp only [Nat.mul_assoc], hp]
    omega
  rw [this, Nat.add_mul_div_left _ _ (Nat.pow_pos (by decide))]
  rw [show 2 ^ (32 - s) * 4294967296 * R = 4294967296 * (2 ^ (32 - s) * R) by rw [Nat.mul_comm (2 ^ (32 - s)), Nat.mul_assoc], Nat.add_mul_mod_self_left]

end Go.Gs
/- Natural numbers, the other text: digits, comparing, sums, differences, products by one digit. -/
namespace Go.Gs
open Go.Proofs

def dgE (d : Dig) : List SV := [.val (.int .u32 (d.val : Int))]
abbrev u32 (n : Int) : SV := .val (.int .u32 n)
abbrev u64 (n : Int) : SV := .val (.int .u64 n)
/-- A row of digits of one's own. -/
abbrev dArr (xs : List Dig) : Mem := .arr 134 dgE 1 xs
theorem dArr_flat (xs : List Dig) : flatM (dArr xs) := fun _ _ => rfl
theorem dArr_scalar (xs : List Dig) : scalarM (dArr xs) := fun _ _ => rfl
theorem wrap32 (e : Int) : IntKind.u32.wrap e = e % 4294967296 := rfl
theorem wrap64 (e : Int) : IntKind.u64.wrap e = e % 18446744073709551616 := rfl
theorem dgE_len : ∀ x : Dig, (dgE x).length = 1 := fun _ => rfl
theorem dgE_eq {d : Dig} {e : Int} (h : (d.val : Int) = e) : [u32 e] = dgE d := by rw [← h]; rfl
theorem dOne (d : Dig) : [d].length = 1 ∧ 1 ≤ 281474976710656 ∧ 1 * 1 ≤ 16777216 ∧ 0 < 1 ∧ ∀ x ∈ [d], (dgE x).length = 1 ∧ cellsB (dgE x) = true ∧ flat.flats (dgE x) = true :=
  ⟨rfl, by decide, by decide, by decide, fun _ _ => ⟨rfl, rfl, rfl⟩⟩
theorem dNone : ([] : List Dig).length = 0 ∧ 0 ≤ 281474976710656 ∧ 0 * 1 ≤ 16777216 ∧ 0 < 1 ∧ ∀ x ∈ ([] : List Dig), (dgE x).length = 1 ∧ cellsB (dgE x) = true ∧ flat.flats (dgE x) = true :=
  ⟨rfl, by decide, by decide, by decide, fun _ _ => ⟨rfl, rfl, rfl⟩⟩
theorem dApp {xs ys : List Dig} (h : xs.length + ys.length ≤ 2000000000) : ((xs.length + ys.length : Int) * (4 : Nat) ≤ 140737488355328 ∧ xs.length + ys.length ≤ 281474976710656 ∧ 0 < 1 ∧ ∀ x ∈ ys, (dgE x).length = 1) :=
  ⟨by omega, by omega, by decide, fun _ _ => rfl⟩

/-- Which of the two is greater. -/
def cmpN (a b : Nat) : Int := if a < b then -1 else if b < a then 1 else 0

theorem cmpN_lt {a b : Nat} : cmpN a b < 0 ↔ a < b := by
  unfold cmpN; split
  · simp_all
  · split <;> simp_all
theorem cmpN_gt {a b : Nat} : 0 < cmpN a b ↔ b < a := by
  unfold cmpN; split
  · simp; omega
  · split <;> simp_all
theorem cmpN_eq {a b : Nat} : cmpN a b = 0 ↔ a = b := by
  unfold cmpN; split
  · simp; omega
  · split
    · simp; omega
    · simp; omega

theorem r1_normalize (a : List Dig) (ha : a.length ≤ 1000000000) : CallsG Tryz.prog 160 [.sl dgE a] [] (.own 0) [(0, dArr (digs (val a)))] := by
  refine calls_own tok mix Tryz.func160 rfl rfl rfl ?_
  intro hl0
  refine ⟨Nat, fun n => ⟨[(3, i64 n), (0, .sl dgE a)], [], 0, 34, 0⟩, fun n => n ≤ a.length ∧ ∀ i, n ≤ i → dig a i = 0, fun n => n, a.length, ?_, ?_, ?_⟩
  · exact ⟨Nat.le_refl _, fun i h => dig_out h⟩
  · exact sub_of [] rfl rfl rfl ⟨rfl, rfl, trivial⟩ trivial
  rintro n ⟨h1, h2⟩
  have post : ∀ (n : Nat), n ≤ a.length → (∀ i, n ≤ i → dig a i = 0) → (n = 0 ∨ dig a (n - 1) ≠ 0) → digs (val a) = a.take n := fun n h1 h2 h3 => (normd_take h3 h1 h2).symm
  refine Br.mk (fun h3 => ?_) (fun h3 => ?_)
  · refine Ar.fit (by omega) ?_
    refine Ob.mk (by omega) ?_
    intro x hx
    refine Br.mk (fun h4 => ?_) (fun h4 => ?_)
    · refine Ar.fit (by omega) ?_
      refine ⟨n - 1, ⟨by omega, fun i hi => ?_⟩, sub_of [] rfl rfl rfl ⟨congrArg (fun n => some (i64 n)) (by omega), rfl, trivial⟩ trivial, by dsimp only; omega⟩
      by_cases e : i = n - 1
      · subst e
        rw [show ((n : Int) - 1).toNat = n - 1 by omega] at hx
        rw [dig_some hx]; omega
      · exact h2 i (by omega)
    · have h5 : dig a (n - 1) ≠ 0 := by
        rw [show ((n : Int) - 1).toNat = n - 1 by omega] at hx
        rw [dig_some hx]; omega
      rw [post n h1 h2 (.inr h5)]
      refine ⟨Dig, dgE, [], rfl, Ob.mk dNone ?_⟩
      refine ⟨Nat, fun i => ⟨[(5, i64 i), (3, i64 n), (4, .own 0), (0, .sl dgE a)], [(0, dArr (a.take i))], 1, 34, 0⟩, fun i => i ≤ n, fun i => n - i, 0, ?_, ?_, ?_⟩
      · exact Nat.zero_le _
      · exact sub_of [(0, some 0)] rfl rfl rfl ⟨rfl, rfl, rfl, rfl, trivial⟩ ⟨rfl, trivial⟩
      rintro i hi
      have hi : i ≤ n := hi
      refine Br.mk (fun k1 => ?_) (fun k1 => ?_)
      · refine Ob.mk (by omega) ?_
        intro y hy
        refine ⟨Dig, dgE, [y], rfl, Ob.mk (dOne y) ?_⟩
        refine ⟨_, rfl, Ob.mk (dApp (by simp; omega)) ?_⟩
        refine Ar.fit (by omega) ?_
        refine ⟨i + 1, by show i + 1 ≤ n; omega, sub_of [(0, some 2)] rfl rfl rfl ⟨rfl, rfl, rfl, rfl, trivial⟩
          ⟨congrArg (fun l => some (dArr l)) (by rw [List.take_add_one, show a[i]? = some y from hy]; rfl), trivial⟩, by dsimp only; omega⟩
      · have hin : i = n := by omega
        subst hin
        exact ⟨some 0, .own _ rfl, rfl, fun _ _ => rfl⟩
  · have h5 : n = 0 := by omega
    rw [post n h1 h2 (.inl h5)]
    refine ⟨Dig, dgE, [], rfl, Ob.mk dNone ?_⟩
    refine ⟨Nat, fun i => ⟨[(5, i64 i), (3, i64 n), (4, .own 0), (0, .sl dgE a)], [(0, dArr (a.take i))], 1, 34, 0⟩, fun i => i ≤ n, fun i => n - i, 0, ?_, ?_, ?_⟩
    · exact Nat.zero_le _
    · exact sub_of [(0, some 0)] rfl rfl rfl ⟨rfl, rfl, rfl, rfl, trivial⟩ ⟨rfl, trivial⟩
    rintro i hi
    have hi : i ≤ n := hi
    refine Br.mk (fun k1 => ?_) (fun k1 => ?_)
    · refine Ob.mk (by omega) ?_
      intro y hy
      refine ⟨Dig, dgE, [y], rfl, Ob.mk (dOne y) ?_⟩
      refine ⟨_, rfl, Ob.mk (dApp (by simp; omega)) ?_⟩
      refine Ar.fit (by omega) ?_
      refine ⟨i + 1, by show i + 1 ≤ n; omega, sub_of [(0, some 2)] rfl rfl rfl ⟨rfl, rfl, rfl, rfl, trivial⟩
        ⟨congrArg (fun l => some (dArr l)) (by rw [List.take_add_one, show a[i]? = some y from hy]; rfl), trivial⟩, by dsimp only; omega⟩
    · have hin : i = n := by omega
      subst hin
      exact ⟨some 0, .own _ rfl, rfl, fun _ _ => rfl⟩

theorem r1_digit (a : List Dig) (i : Int) (hi : 0 ≤ i) : CallsG Tryz.prog 300 [.sl dgE a, i64 i] [] (u64 (dig a i.toNat)) [] := by
  refine calls_to tok mix Tryz.func300 rfl rfl rfl ?_
  refine Br.mk (fun h => ?_) (fun h => ?_)
  · omega
  intro hl
  refine Br.mk (fun h2 => ?_) (fun h2 => ?_)
  · exact LE_int (by rw [dig_out (by omega)]; rfl)
  · refine Ob.mk (by omega) ?_
    intro x hx
    have := x.isLt
    refine Ar.fit (by omega) ?_
    exact LE_int (by rw [dig_some hx])

theorem dofW {n : Nat} {e : Int} (h : e = n) : ((dof n).val : Int) = IntKind.u32.wrap e := by rw [wrap32, dof_val, h]; omega

theorem cmp_step {a b : List Dig} {j : Nat} (h : ∀ i, j + 1 ≤ i → dig a i = dig b i) (hl : dig a j < dig b j) : val a < val b := by
  have e1 := val_split a j
  have e2 := val_split b j
  have e3 := val_take_lt a j
  have e4 := val_drop_cons a j
  have e5 := val_drop_cons b j
  have e6 := val_drop_congr h
  have : val (a.drop j) + 1 ≤ val (b.drop j) := by omega
  have := Nat.mul_le_mul_left (4294967296 ^ j) this
  rw [Nat.mul_add] at this
  omega

theorem r1_cmp (a b : List Dig) (ha : a.length ≤ 1000000000) (hb : b.length ≤ 1000000000) :
    CallsG Tryz.prog 268 [.sl dgE a, .sl dgE b] [] (i64 (cmpN (val a) (val b))) [] := by
  refine calls_to tok mix Tryz.func268 rfl rfl rfl ?_
  intro hl1 hl2
  refine Ar.fit (by simp only [maxL]; omega) ?_
  refine ⟨Nat, fun j => ⟨[(5, i64 ((j : Int) - 1)), (0, .sl dgE a), (1, .sl dgE b)], [], 0, 30, 0⟩, fun j => j ≤ 1000000000 ∧ ∀ i, j ≤ i → dig a i = dig b i, fun j => j, max a.length b.length, ?_, ?_, ?_⟩
  · exact ⟨by omega, fun i hi => by rw [dig_out (by omega), dig_out (by omega)]⟩
  · exact sub_of [] rfl rfl rfl ⟨congrArg (fun n => some (i64 n)) (by simp only [maxL]; omega), rfl, rfl, trivial⟩ trivial
  rintro j ⟨h1, h2⟩
  refine Br.mk (fun h3 => ?_) (fun h3 => ?_)
  · have e : ((j : Int) - 1).toNat = j - 1 := by omega
    have h2' : ∀ i, j - 1 + 1 ≤ i → dig a i = dig b i := fun i hi => h2 i (by omega)
    refine CallV.to _ (r1_digit a _ (by omega)) rfl ?_
    refine CallV.to _ (r1_digit b _ (by omega)) rfl ?_
    refine Br.mk (fun h4 => ?_) (fun h4 => ?_)
    · have := cmp_step h2' (by rw [e] at h4; omega)
      exact LE_int (by rw [cmpN, if_pos this])
    refine CallV.to _ (r1_digit a _ (by omega)) rfl ?_
    refine CallV.to _ (r1_digit b _ (by omega)) rfl ?_
    refine Br.mk (fun h5 => ?_) (fun h5 => ?_)
    · have := cmp_step (fun i hi => (h2' i hi).symm) (by rw [e] at h5; omega)
      exact LE_int (by rw [cmpN, if_neg (by omega), if_pos this])
    refine Ar.fit (by omega) ?_
    refine ⟨j - 1, ⟨by omega, fun i hi => ?_⟩, sub_of [] rfl rfl rfl ⟨congrArg (fun n => some (i64 n)) (by omega), rfl, rfl, trivial⟩ trivial, by dsimp only; omega⟩
    by_cases hij : i = j - 1
    · subst hij; rw [e] at h4 h5; omega
    · exact h2 i (by omega)
  · have hj : j = 0 := by omega
    subst hj
    have := val_congr fun i => h2 i (Nat.zero_le _)
    exact LE_int (by rw [cmpN, if_neg (by omega), if_neg (by omega)])

set_option maxRecDepth 100000 in
theorem r1_add (a b : List Dig) (ha : a.length ≤ 900000000) (hb : b.length ≤ 900000000) :
    CallsG Tryz.prog 266 [.sl dgE a, .sl dgE b] [] (.own 0) [(0, dArr (digs (val a + val b)))] := by
  refine calls_own tok mix Tryz.func266 rfl rfl rfl ?_
  refine ⟨Dig, dgE, [], rfl, Ob.mk dNone ?_⟩
  refine ⟨Nat × List Dig × Nat, fun q => ⟨[(7, i64 q.1), (6, u64 q.2.2), (5, .own 0), (0, .sl dgE a), (1, .sl dgE b)], [(0, dArr q.2.1)], 1, 42, 0⟩,
    fun q => q.1 ≤ max a.length b.length ∧ q.2.1.length = q.1 ∧ q.2.2 ≤ 1 ∧ val q.2.1 + 4294967296 ^ q.1 * q.2.2 = val (a.take q.1) + val (b.take q.1), fun q => max a.length b.length - q.1, (0, [], 0), ?_, ?_, ?_⟩
  · exact ⟨Nat.zero_le _, rfl, Nat.zero_le _, rfl⟩
  · exact sub_of [(0, some 0)] rfl rfl rfl ⟨rfl, rfl, rfl, rfl, rfl, trivial⟩ ⟨rfl, trivial⟩
  rintro ⟨i, out, c⟩ ⟨h1, h2, h3, h4⟩
  dsimp only at h1 h2 h3 h4
  intro hl1 hl2
  refine Br.mk (fun h5 => ?_) (fun h5 => ?_)
  · simp only [maxL] at h5
    have d1 := dig_lt a i
    have d2 := dig_lt b i
    refine CallV.to _ (r1_digit a _ (by omega)) rfl ?_
    refine CallV.to _ (r1_digit b _ (by omega)) rfl ?_
    simp only [Int.toNat_natCast]
    refine Ar.fit (by omega) ?_
    refine Ar.fit (by omega) ?_
    refine Ar.wrap ?_
    refine ⟨Dig, dgE, [dof (dig a i + dig b i + c)], congrArg (fun n => [u32 n]) (dofW (by omega)), Ob.mk (dOne _) ?_⟩
    refine ⟨_, rfl, Ob.mk (dApp (by simp; omega)) ?_⟩
    refine Ob.mk (by decide) ?_
    refine Ar.fit (by omega) ?_
    refine ⟨(i + 1, out ++ [dof (dig a i + dig b i + c)], (dig a i + dig b i + c) / 4294967296), ⟨by dsimp only; omega, by simp [h2], by dsimp only; omega, ?_⟩,
      sub_of [(0, some 2)] rfl rfl rfl ⟨rfl, congrArg (fun n => some (u64 n)) (by dsimp only; omega), rfl, rfl, rfl, trivial⟩ ⟨rfl, trivial⟩, by dsimp only; omega⟩
    dsimp only
    rw [val_snoc, h2, dof_val, val_take_succ, val_take_succ, Nat.pow_succ]
    have e := Nat.div_add_mod (dig a i + dig b i + c) 4294967296
    generalize (dig a i + dig b i + c) / 4294967296 = x at *
    generalize (dig a i + dig b i + c) % 4294967296 = y at *
    generalize 4294967296 ^ i = p at *
    grind
  · simp only [maxL] at h5
    have hi : i = max a.length b.length := by omega
    refine Ar.wrap ?_
    refine ⟨Dig, dgE, [dof c], congrArg (fun n => [u32 n]) (dofW rfl), Ob.mk (dOne _) ?_⟩
    refine ⟨_, rfl, Ob.mk (dApp (by simp; omega)) ?_⟩
    refine CallV.fresh _ _ (r1_normalize _ (by simp; omega)) rfl (dArr_flat _) (.inr (dArr_scalar _)) ?_
    refine ⟨some 3, .own _ rfl, ?_, fun _ _ => rfl⟩
    have e : val (out ++ [dof c]) = val a + val b := by
      rw [val_snoc, h2, dof_val, Nat.mod_eq_of_lt (by omega), h4, val_take_all (by omega), val_take_all (by omega)]
    rw [← e]; rfl

end Go.Gs
/- Natural numbers, the other text: differences, products, shifts. -/
namespace Go.Gs
open Go.Proofs

theorem r1_normalizeP (a : List Dig) (ha : a.length ≤ 1000000000) : CallsG Tryz.prog 160 [.sl dgE a] [] (.sl dgE (digs (val a))) [] :=
  (r1_normalize a ha).plain rfl
theorem r1_addP (a b : List Dig) (ha : a.length ≤ 900000000) (hb : b.length ≤ 900000000) :
    CallsG Tryz.prog 266 [.sl dgE a, .sl dgE b] [] (.sl dgE (digs (val a + val b))) [] := (r1_add a b ha hb).plain rfl

set_option maxRecDepth 100000 in
theorem r1_sub (a b : List Dig) (ha : a.length ≤ 900000000) (hb : b.length ≤ 900000000) :
    CallsG Tryz.prog 298 [.sl dgE a, .sl dgE b] [] (.tup [.own 0, pr (val b ≤ val a)]) [(0, dArr (digs (val a - val b)))] := by
  refine calls_own tok mix Tryz.func298 rfl rfl rfl ?_
  refine CallV.to _ (r1_cmp a b (by omega) (by omega)) rfl ?_
  refine Br.mk (fun h => ?_) (fun h => ?_)
  · have hlt : val a < val b := cmpN_lt.1 h
    refine ⟨none, take_tup (.cons (.nil rfl) (.cons (.le _ _ (LE_false (by omega)) rfl) .nil)), ?_⟩
    show digs (val a - val b) = []
    rw [Nat.sub_eq_zero_of_le (by omega)]; exact digs_zero
  have hle : val b ≤ val a := Nat.le_of_not_lt fun h' => h (cmpN_lt.2 h')
  refine ⟨Dig, dgE, [], rfl, Ob.mk dNone ?_⟩
  refine ⟨Nat × List Dig × Nat, fun ⟨i, out, c⟩ => ⟨[(8, i64 i), (7, u64 c), (6, .own 0), (0, .sl dgE a), (1, .sl dgE b)], [(0, dArr out)], 1, 41, 0⟩,
    fun q => q.1 ≤ a.length ∧ q.2.1.length = q.1 ∧ q.2.2 ≤ 1 ∧ val q.2.1 + val (b.take q.1) = val (a.take q.1) + 4294967296 ^ q.1 * q.2.2, fun q => a.length - q.1, (0, [], 0), ?_, ?_, ?_⟩
  · exact ⟨Nat.zero_le _, rfl, Nat.zero_le _, rfl⟩
  · exact sub_of [(0, some 0)] rfl rfl rfl ⟨rfl, rfl, rfl, rfl, rfl, trivial⟩ ⟨rfl, trivial⟩
  rintro ⟨i, out, c⟩ ⟨h1, h2, h3, h4⟩
  dsimp only at h1 h2 h3 h4
  intro hl1
  refine Br.mk (fun h5 => ?_) (fun h5 => ?_)
  · have d1 := dig_lt a i
    have d2 := dig_lt b i
    refine CallV.to _ (r1_digit a _ (by omega)) rfl ?_
    simp only [Int.toNat_natCast]
    refine Ar.fit (by omega) ?_
    refine CallV.to _ (r1_digit b _ (by omega)) rfl ?_
    simp only [Int.toNat_natCast]
    refine Ar.fit (by omega) ?_
    refine Ar.fit (by omega) ?_
    refine Ar.wrap ?_
    refine ⟨Dig, dgE, [dof (4294967296 + dig a i - dig b i - c)], congrArg (fun n => [u32 n]) (dofW (by omega)), Ob.mk (dOne _) ?_⟩
    refine ⟨_, rfl, Ob.mk (dApp (by simp; omega)) ?_⟩
    refine Ob.mk (by decide) ?_
    refine Ar.fit (by simp only [Int.reducePow]; omega) ?_
    refine Ar.fit (by omega) ?_
    refine ⟨(i + 1, out ++ [dof (4294967296 + dig a i - dig b i - c)], 1 - (4294967296 + dig a i - dig b i - c) / 4294967296), ⟨by dsimp only; omega, by simp [h2], by dsimp only; omega, ?_⟩,
      sub_of [(0, some 2)] rfl rfl rfl ⟨rfl, congrArg (fun n => some (u64 n)) (by dsimp only; omega), rfl, rfl, rfl, trivial⟩ ⟨rfl, trivial⟩, by dsimp only; omega⟩
    dsimp only
    rw [val_snoc, h2, dof_val, val_take_succ, val_take_succ, Nat.pow_succ]
    have e : (4294967296 + dig a i - dig b i - c) % 4294967296 + dig b i + c = dig a i + 4294967296 * (1 - (4294967296 + dig a i - dig b i - c) / 4294967296) := by omega
    generalize 1 - (4294967296 + dig a i - dig b i - c) / 4294967296 = x at *
    generalize (4294967296 + dig a i - dig b i - c) % 4294967296 = y at *
    generalize 4294967296 ^ i = p at *
    have e2 : p * y + p * dig b i + p * c = p * dig a i + p * 4294967296 * x := by
      rw [← Nat.mul_add, ← Nat.mul_add, e, Nat.mul_add, Nat.mul_assoc]
    omega
  · have hi : i = a.length := by omega
    refine CallV.fresh _ _ (r1_normalize _ (by omega)) rfl (dArr_flat _) (.inr (dArr_scalar _)) ?_
    refine ⟨some 1, take_tup (.cons (.own _ rfl) (.cons (.le _ _ (LE_true hle) rfl) .nil)), ?_, fun _ _ => rfl⟩
    have e : val out = val a - val b := by
      subst hi
      have e0 : val (a.take a.length) = val a := val_take_all (Nat.le_refl _)
      rw [e0] at h4
      have e1 := val_split b a.length
      have e2 := val_lt a
      have e3 : val (b.drop a.length) = 0 := by
        rcases Nat.eq_zero_or_pos (val (b.drop a.length)) with h | h
        · exact h
        · have := Nat.mul_le_mul_left (4294967296 ^ a.length) h
          omega
      have e4 := val_lt out
      rw [h2] at e4
      rw [e3] at e1
      have : c = 0 ∨ c = 1 := by omega
      rcases this with rfl | rfl <;> omega
    rw [← e]; rfl

theorem r1_subP (a b : List Dig) (ha : a.length ≤ 900000000) (hb : b.length ≤ 900000000) :
    CallsG Tryz.prog 298 [.sl dgE a, .sl dgE b] [] (.tup [.sl dgE (digs (val a - val b)), pr (val b ≤ val a)]) [] := (r1_sub a b ha hb).plain rfl

theorem mul_digs {x y c : Nat} (hx : x < 4294967296) (hy : y < 4294967296) (hc : c < 4294967296) : x * y + c ≤ 18446744069414584320 := by
  have : x * y ≤ 4294967295 * 4294967295 := Nat.mul_le_mul (by omega) (by omega)
  omega

theorem mul_digs0 {x y : Nat} (hx : x < 4294967296) (hy : y < 4294967296) : x * y ≤ 18446744065119617025 := by
  have : x * y ≤ 4294967295 * 4294967295 := Nat.mul_le_mul (by omega) (by omega)
  omega
theorem mul_step {p q x y z c u v w o o0 r : Nat} (h4 : o + p * q * c = o0 + p * (x * w)) (hs : r + p * q * z = o + p * q * v) (e : 4294967296 * u + v = x * y + z + c) :
    r + p * q * 4294967296 * u = o0 + p * (x * (w + q * y)) := by grind

set_option maxRecDepth 100000 in
theorem r1_times (a : List Dig) (d : Nat) (ha : a.length ≤ 900000000) (hd : d < 4294967296) :
    CallsG Tryz.prog 308 [.sl dgE a, u64 d] [] (.own 0) [(0, dArr (digs (val a * d)))] := by
  refine calls_own tok mix Tryz.func308 rfl rfl rfl ?_
  refine ⟨Dig, dgE, [], rfl, Ob.mk dNone ?_⟩
  refine ⟨Nat × List Dig × Nat, fun ⟨i, out, c⟩ => ⟨[(7, i64 i), (6, u64 c), (5, .own 0), (0, .sl dgE a), (1, u64 d)], [(0, dArr out)], 1, 39, 0⟩,
    fun q => q.1 ≤ a.length ∧ q.2.1.length = q.1 ∧ q.2.2 < 4294967296 ∧ val q.2.1 + 4294967296 ^ q.1 * q.2.2 = val (a.take q.1) * d, fun q => a.length - q.1, (0, [], 0), ?_, ?_, ?_⟩
  · exact ⟨Nat.zero_le _, rfl, by decide, by simp [val]⟩
  · exact sub_of [(0, some 0)] rfl rfl rfl ⟨rfl, rfl, rfl, rfl, rfl, trivial⟩ ⟨rfl, trivial⟩
  rintro ⟨i, out, c⟩ ⟨h1, h2, h3, h4⟩
  dsimp only at h1 h2 h3 h4
  intro hl1
  refine Br.mk (fun h5 => ?_) (fun h5 => ?_)
  · refine Ob.mk (by omega) ?_
    intro x hx
    have hx : a[i]? = some x := hx
    have dx := dig_some hx
    have hm := mul_digs x.isLt hd h3
    have hm0 := mul_digs0 x.isLt hd
    have hxl := x.isLt
    refine Ar.fit (by omega) ?_
    refine Ar.fit (by omega) ?_
    refine Ar.fit (by omega) ?_
    refine Ar.wrap ?_
    refine ⟨Dig, dgE, [dof (x.val * d + c)], congrArg (fun n => [u32 n]) (dofW (by omega)), Ob.mk (dOne _) ?_⟩
    refine ⟨_, rfl, Ob.mk (dApp (by simp; omega)) ?_⟩
    refine Ob.mk (by decide) ?_
    refine Ar.fit (by omega) ?_
    refine ⟨(i + 1, out ++ [dof (x.val * d + c)], (x.val * d + c) / 4294967296), ⟨by dsimp only; omega, by simp [h2], by dsimp only; omega, ?_⟩,
      sub_of [(0, some 2)] rfl rfl rfl ⟨rfl, congrArg (fun n => some (u64 n)) (by dsimp only; omega), rfl, rfl, rfl, trivial⟩ ⟨rfl, trivial⟩, by dsimp only; omega⟩
    dsimp only
    rw [val_snoc, h2, dof_val, val_take_succ, Nat.pow_succ, dx]
    have e := Nat.div_add_mod (x.val * d + c) 4294967296
    generalize (x.val * d + c) / 4294967296 = u at *
    generalize (x.val * d + c) % 4294967296 = v at *
    generalize 4294967296 ^ i = p at *
    generalize x.val = x at *
    generalize val (a.take i) = w at *
    clear hm hm0
    grind
  · have hi : i = a.length := by omega
    refine Ar.wrap ?_
    refine ⟨Dig, dgE, [dof c], congrArg (fun n => [u32 n]) (dofW rfl), Ob.mk (dOne _) ?_⟩
    refine ⟨_, rfl, Ob.mk (dApp (by simp; omega)) ?_⟩
    refine CallV.fresh _ _ (r1_normalize _ (by simp; omega)) rfl (dArr_flat _) (.inr (dArr_scalar _)) ?_
    refine ⟨some 3, .own _ rfl, ?_, fun _ _ => rfl⟩
    have e : val (out ++ [dof c]) = val a * d := by
      rw [val_snoc, h2, dof_val, Nat.mod_eq_of_lt (by omega), h4, val_take_all (by omega)]
    rw [← e]; rfl
theorem r1_timesP (a : List Dig) (d : Nat) (ha : a.length ≤ 900000000) (hd : d < 4294967296) :
    CallsG Tryz.prog 308 [.sl dgE a, u64 d] [] (.sl dgE (digs (val a * d))) [] := (r1_times a d ha hd).plain rfl

set_option maxRecDepth 100000 in
set_option maxHeartbeats 1000000 in
theorem r1_mul (a b : List Dig) (ha : a.length ≤ 400000000) (hb : b.length ≤ 400000000) :
    CallsG Tryz.prog 269 [.sl dgE a, .sl dgE b] [] (.own 0) [(0, dArr (digs (val a * val b)))] := by
  refine calls_own tok mix Tryz.func269 rfl rfl rfl ?_
  intro hl1 hl2
  refine Ar.fit (by omega) ?_
  refine Ar.fit (by omega) ?_
  refine ⟨Dig, dgE, 0, rfl, Ob.mk ⟨by decide, by omega, by omega, (by show _ * (4 : Int) ≤ _; omega), by omega⟩ ?_⟩
  refine ⟨Nat × List Dig, fun ⟨i, out⟩ => ⟨[(6, i64 i), (5, .own 0), (0, .sl dgE a), (1, .sl dgE b)], [(0, dArr out)], 1, 69, 0⟩,
    fun q => q.1 ≤ a.length ∧ q.2.length = a.length + b.length + 1 ∧ val q.2 = val (a.take q.1) * val b ∧ ∀ j, q.1 + b.length ≤ j → dig q.2 j = 0, fun q => a.length - q.1, (0, List.replicate (a.length + b.length + 1) 0), ?_, ?_, ?_⟩
  · exact ⟨Nat.zero_le _, by simp, by simp [val_zeros, val], fun j _ => dig_replicate _ _⟩
  · exact sub_of [(0, some 0)] rfl rfl rfl ⟨rfl, rfl, rfl, rfl, trivial⟩ ⟨congrArg (fun n => some (dArr (List.replicate n 0))) (by omega), trivial⟩
  rintro ⟨i, out0⟩ ⟨h1, h2, h3, h4⟩
  dsimp only at h1 h2 h3 h4
  intro hl3
  refine Br.mk (fun h5 => ?_) (fun h5 => ?_)
  · refine ⟨Nat × List Dig × Nat, fun ⟨k, out, c⟩ => ⟨[(8, i64 k), (7, u64 c), (6, i64 i), (5, .own 0), (0, .sl dgE a), (1, .sl dgE b)], [(0, dArr out)], 1, 69, 0⟩,
      fun q => q.1 ≤ b.length ∧ q.2.1.length = a.length + b.length + 1 ∧ q.2.2 < 4294967296 ∧ val q.2.1 + 4294967296 ^ (i + q.1) * q.2.2 = val out0 + 4294967296 ^ i * (dig a i * val (b.take q.1)) ∧ ∀ j, i + b.length ≤ j → dig q.2.1 j = 0, fun q => b.length - q.1, (0, out0, 0), ?_, ?_, ?_⟩
    · exact ⟨Nat.zero_le _, h2, by dsimp only; omega, by simp [val], h4⟩
    · exact sub_of [(0, some 0)] rfl rfl rfl ⟨rfl, rfl, rfl, rfl, rfl, rfl, trivial⟩ ⟨rfl, trivial⟩
    rintro ⟨k, out, c⟩ ⟨g1, g2, g3, g4, g5⟩
    dsimp only at g1 g2 g3 g4 g5
    intro hl4
    refine Br.mk (fun g6 => ?_) (fun g6 => ?_)
    · refine Dr.mk (by decide +kernel) ?_
      refine Ob.mk (by omega) ?_
      intro x hx
      have hx : a[i]? = some x := hx
      have dx := dig_some hx
      have hxl := x.isLt
      refine Ar.fit (by omega) ?_
      refine Ob.mk (by omega) ?_
      intro y hy
      have hy : b[k]? = some y := hy
      have dy := dig_some hy
      have hyl := y.isLt
      refine Ar.fit (by omega) ?_
      have hm0 := mul_digs0 hxl hyl
      refine Ar.fit (by omega) ?_
      refine Ar.fit (by omega) ?_
      refine Ob.mk (by omega) ?_
      refine Ob.mk (by omega) ?_
      intro z hz
      rw [show ((i : Int) + k).toNat = i + k by omega] at hz
      have dz := dig_some hz
      have hzl := z.isLt
      refine Ar.fit (by omega) ?_
      refine Ar.fit (by omega) ?_
      refine Ar.fit (by omega) ?_
      refine Ar.fit (by omega) ?_
      refine Ar.wrap ?_
      refine Ob.mk (by omega) ?_
      refine Ob.mk (by omega) ?_
      intro z' hz'
      refine ⟨dof (x.val * y.val + z.val + c), congrArg (fun n => [u32 n]) (dofW (by omega)), ?_⟩
      refine Ob.mk (by decide) ?_
      refine Ar.fit (by omega) ?_
      refine ⟨(k + 1, out.set (i + k) (dof (x.val * y.val + z.val + c)), (x.val * y.val + z.val + c) / 4294967296), ⟨by dsimp only; omega, by simp [g2], by dsimp only; omega, ?_, ?_⟩,
        sub_of [(0, some 0)] rfl rfl rfl ⟨rfl, congrArg (fun n => some (u64 n)) (by dsimp only; omega), rfl, rfl, rfl, rfl, trivial⟩ ⟨congrArg (fun n => some (dArr (out.set n _))) (by omega), trivial⟩, by dsimp only; omega⟩
      · dsimp only
        have hs := val_set out (i + k) (dof (x.val * y.val + z.val + c)) (by omega)
        rw [dof_val, dz] at hs
        rw [val_take_succ, dy, ← Nat.add_assoc i k 1, Nat.pow_succ]
        rw [dx] at g4 ⊢
        have e := Nat.div_add_mod (x.val * y.val + z.val + c) 4294967296
        rw [Nat.pow_add] at g4 hs ⊢
        exact mul_step g4 hs e
      · intro j hj
        dsimp only
        rw [dig_set, if_neg (by omega)]
        exact g5 j hj
    · have hk : k = b.length := by omega
      intro hl5
      refine Ar.fit (by omega) ?_
      refine Ar.wrap ?_
      refine Ob.mk (by omega) ?_
      refine Ob.mk (by omega) ?_
      intro z' hz'
      refine ⟨dof c, congrArg (fun n => [u32 n]) (dofW rfl), ?_⟩
      refine Ar.fit (by omega) ?_
      refine ⟨(i + 1, out.set (i + b.length) (dof c)), ⟨by dsimp only; omega, by simp [g2], ?_, ?_⟩,
        sub_of [(0, some 0)] rfl rfl rfl ⟨rfl, rfl, rfl, rfl, trivial⟩ ⟨congrArg (fun n => some (dArr (out.set n _))) (by omega), trivial⟩, by dsimp only; omega⟩
      · dsimp only
        have hs := val_set out (i + b.length) (dof c) (by omega)
        rw [dof_val, g5 _ (Nat.le_refl _), Nat.mod_eq_of_lt g3] at hs
        rw [hk, val_take_all (Nat.le_refl _), h3] at g4
        rw [val_take_succ]
        generalize val (out.set (i + b.length) _) = r at *
        generalize 4294967296 ^ i = p at *
        generalize 4294967296 ^ (i + b.length) = q at *
        generalize val (a.take i) = w at *
        generalize dig a i = x at *
        generalize val out = o at *
        clear h4 g5
        grind
      · intro j hj
        dsimp only
        rw [dig_set, if_neg (by omega)]
        exact g5 j (by omega)
  · have hi : i = a.length := by omega
    refine CallV.fresh _ _ (r1_normalize _ (by omega)) rfl (dArr_flat _) (.inr (dArr_scalar _)) ?_
    refine ⟨some 1, .own _ rfl, ?_, fun _ _ => rfl⟩
    rw [hi, val_take_all (Nat.le_refl _)] at h3
    rw [← h3]; rfl
theorem r1_mulP (a b : List Dig) (ha : a.length ≤ 400000000) (hb : b.length ≤ 400000000) :
    CallsG Tryz.prog 269 [.sl dgE a, .sl dgE b] [] (.sl dgE (digs (val a * val b))) [] := (r1_mul a b ha hb).plain rfl

end Go.Gs
/- Natural numbers, the other text: binary digits, shifts. -/
namespace Go.Gs
open Go.Proofs

theorem nbits_val_le (a : List Dig) : nbits (val a) ≤ 32 * a.length := by
  by_cases h : val a = 0
  · rw [h, nbits_zero]; omega
  · have h1 := nbits_ge h
    have h2 := val_lt a
    rw [pow32] at h2
    have := (Nat.pow_lt_pow_iff_right (by decide : 1 < 2)).1 (Nat.lt_of_le_of_lt h1 h2)
    omega

theorem r1_bitlen (a : List Dig) (ha : a.length ≤ 900000000) : CallsG Tryz.prog 265 [.sl dgE a] [] (i64 (nbits (val a))) [] := by
  refine calls_to tok mix Tryz.func265 rfl rfl rfl ?_
  refine CallV.to _ (r1_normalizeP _ (by omega)) rfl ?_
  intro hl
  have hlen := digs_val_len a
  refine Br.mk (fun h => ?_) (fun h => ?_)
  · have : digs (val a) = [] := List.length_eq_zero_iff.1 (by omega)
    exact LE_int (by rw [digs_nil.1 this]; rfl)
  have hne : digs (val a) ≠ [] := fun e => h (by rw [e]; rfl)
  have hn := (normd_digs (val a)).resolve_left hne
  have htop := nbits_top hn
  rw [val_digs] at htop
  intro hl2
  refine Ar.fit (by omega) ?_
  refine Ar.fit (by omega) ?_
  intro hl3
  refine Ar.fit (by omega) ?_
  refine Ob.mk (by omega) ?_
  intro x hx
  rw [show (((digs (val a)).length : Int) - 1).toNat = (digs (val a)).length - 1 by omega] at hx
  have dx := dig_some hx
  have hxl := x.isLt
  have hb := nbits_val_le a
  refine ⟨Nat × Nat, fun ⟨n, t⟩ => ⟨[(4, i64 n), (5, u32 t)], [], 0, 28, 0⟩, fun q => q.2 < 4294967296 ∧ q.1 + nbits q.2 = nbits (val a), fun q => q.2, (32 * ((digs (val a)).length - 1), x.val), ?_, ?_, ?_⟩
  · exact ⟨hxl, by dsimp only; rw [htop, dx]⟩
  · exact sub_of [] rfl rfl rfl ⟨congrArg (fun n => some (i64 n)) (by omega), rfl, trivial⟩ trivial
  rintro ⟨n, t⟩ ⟨g1, g2⟩
  dsimp only at g1 g2
  refine Br.mk (fun g3 => ?_) (fun g3 => ?_)
  · have hh := nbits_half (n := t) (by omega)
    refine Ar.fit (by omega) ?_
    refine Dv.pos ⟨by omega, by omega, by show _ ≤ (4294967295 : Int); omega⟩ ?_
    exact ⟨(n + 1, t / 2), ⟨by dsimp only; omega, by dsimp only; omega⟩, sub_of [] rfl rfl rfl ⟨rfl, congrArg (fun n => some (u32 n)) (by omega), trivial⟩ trivial, by dsimp only; omega⟩
  · have : t = 0 := by omega
    subst this
    exact LE_int (by rw [← g2]; rfl)

theorem up_step {p s x c u v w o M : Nat} (h4 : o + p * M * c = p * (s * w)) (e : 4294967296 * u + v = x * s + c) :
    o + p * M * v + p * (M * 4294967296) * u = p * (s * (w + M * x)) := by grind

set_option maxRecDepth 100000 in
theorem r1_up (a : List Dig) (n : Nat) (ha : a.length ≤ 800000000) (hn : n ≤ 4096) :
    CallsG Tryz.prog 267 [.sl dgE a, i64 n] [] (.own 0) [(0, dArr (digs (val a * 2 ^ n)))] := by
  refine calls_own tok mix Tryz.func267 rfl rfl rfl ?_
  have hs0 : 2 ^ (n % 32) ≤ 2 ^ 31 := Nat.pow_le_pow_right (by decide) (by omega)
  have hs1 : 0 < 2 ^ (n % 32) := Nat.pow_pos (by decide)
  generalize hs : 2 ^ (n % 32) = s at *
  refine Dv.pos ⟨by omega, by omega, by show _ ≤ (9223372036854775807 : Int); omega⟩ ?_
  refine ⟨Dig, dgE, 0, rfl, Ob.mk ⟨by decide, by omega, by omega, (by show _ * (4 : Int) ≤ _; omega), by omega⟩ ?_⟩
  refine ⟨Nat × List Dig × Nat, fun ⟨i, out, c⟩ => ⟨[(7, i64 i), (6, u64 c), (5, .own 0), (0, .sl dgE a), (1, i64 n)], [(0, dArr out)], 1, 43, 0⟩,
    fun q => q.1 ≤ a.length ∧ q.2.1.length = n / 32 + q.1 ∧ q.2.2 < s ∧ val q.2.1 + 4294967296 ^ (n / 32) * 4294967296 ^ q.1 * q.2.2 = 4294967296 ^ (n / 32) * (s * val (a.take q.1)), fun q => a.length - q.1, (0, List.replicate (n / 32) 0, 0), ?_, ?_, ?_⟩
  · exact ⟨Nat.zero_le _, by simp, hs1, by simp [val_zeros, val]⟩
  · exact sub_of [(0, some 0)] rfl rfl rfl ⟨rfl, rfl, rfl, rfl, rfl, trivial⟩ ⟨congrArg (fun n => some (dArr (List.replicate n 0))) (by omega), trivial⟩
  rintro ⟨i, out, c⟩ ⟨h1, h2, h3, h4⟩
  dsimp only at h1 h2 h3 h4
  intro hl1
  refine Br.mk (fun h5 => ?_) (fun h5 => ?_)
  · refine Ob.mk (by omega) ?_
    intro x hx
    have hx : a[i]? = some x := hx
    have dx := dig_some hx
    have hxl := x.isLt
    refine Ar.fit (by omega) ?_
    refine Dv.pos ⟨by omega, by omega⟩ ?_
    refine Ar.fit (by omega) ?_
    refine Ob.mk (by show _ ∧ _ < (64 : Int); omega) ?_
    have hm : x.val * s ≤ 4294967295 * 2 ^ 31 := Nat.mul_le_mul (by omega) hs0
    have hm2 : (x.val : Int) * 2 ^ ((n : Int) % 32).toNat = ((x.val * s : Nat) : Int) := by
      rw [← hs, show ((n : Int) % 32).toNat = n % 32 by omega]; simp
    have hm3 : x.val * s + c < 4294967296 * s := by
      have : x.val * s ≤ 4294967295 * s := Nat.mul_le_mul_right _ (by omega)
      omega
    refine Ar.fit (by rw [hm2]; omega) ?_
    refine Ar.fit (by rw [hm2]; omega) ?_
    refine Ar.wrap ?_
    refine ⟨Dig, dgE, [dof (x.val * s + c)], congrArg (fun n => [u32 n]) (dofW (by rw [hm2]; omega)), Ob.mk (dOne _) ?_⟩
    refine ⟨_, rfl, Ob.mk (dApp (by simp; omega)) ?_⟩
    refine Ob.mk (by decide) ?_
    refine Ar.fit (by omega) ?_
    refine ⟨(i + 1, out ++ [dof (x.val * s + c)], (x.val * s + c) / 4294967296), ⟨by dsimp only; omega, by simp [h2]; omega, by dsimp only; omega, ?_⟩,
      sub_of [(0, some 2)] rfl rfl rfl ⟨rfl, congrArg (fun n => some (u64 n)) (by rw [hm2]; dsimp only; omega), rfl, rfl, rfl, trivial⟩ ⟨rfl, trivial⟩, by dsimp only; omega⟩
    dsimp only
    rw [val_snoc, h2, dof_val, val_take_succ, dx, Nat.pow_succ, Nat.pow_add]
    exact up_step h4 (Nat.div_add_mod (x.val * s + c) 4294967296)
  · have hi : i = a.length := by omega
    refine Ar.wrap ?_
    refine ⟨Dig, dgE, [dof c], congrArg (fun n => [u32 n]) (dofW rfl), Ob.mk (dOne _) ?_⟩
    refine ⟨_, rfl, Ob.mk (dApp (by simp; omega)) ?_⟩
    refine CallV.fresh _ _ (r1_normalize _ (by simp; omega)) rfl (dArr_flat _) (.inr (dArr_scalar _)) ?_
    refine ⟨some 3, .own _ rfl, ?_, fun _ _ => rfl⟩
    have e : val (out ++ [dof c]) = val a * 2 ^ n := by
      rw [val_snoc, h2, dof_val, Nat.mod_eq_of_lt (by omega), Nat.pow_add, h4, val_take_all (by omega), ← hs, pow32]
      rw [← Nat.mul_assoc, ← Nat.pow_add, show 32 * (n / 32) + n % 32 = n by omega, Nat.mul_comm]
    rw [← e]; rfl
theorem r1_upP (a : List Dig) (n : Nat) (ha : a.length ≤ 800000000) (hn : n ≤ 4096) :
    CallsG Tryz.prog 267 [.sl dgE a, i64 n] [] (.sl dgE (digs (val a * 2 ^ n))) [] := (r1_up a n ha hn).plain rfl

set_option maxRecDepth 100000 in
theorem r1_shl (a : List Dig) (n : Nat) (ha : a.length ≤ 800000000) (hn : n ≤ 4096) :
    CallsG Tryz.prog 302 [.sl dgE a, i64 n] [] (.own 0) [(0, dArr (digs (val a * 2 ^ n)))] := by
  refine calls_own tok mix Tryz.func302 rfl rfl rfl ?_
  refine Br.mk (fun h => ?_) (fun h => absurd (by omega) h)
  have e : minL (n : Int) [4096] = n := by simp only [minL]; omega
  refine CallV.fresh _ _ (show CallsG Tryz.prog _ [.sl dgE a, i64 (minL (n : Int) [4096])] [] (.own 0) [(0, dArr (digs (val a * 2 ^ n)))] by rw [e]; exact r1_up a n ha hn) rfl (dArr_flat _) (.inr (dArr_scalar _)) ?_
  exact ⟨some 0, .own _ rfl, rfl, fun _ _ => rfl⟩

set_option maxRecDepth 100000 in
theorem r1_shr (a : List Dig) (n : Nat) (ha : a.length ≤ 800000000) (hn : n ≤ 1000000000000) :
    CallsG Tryz.prog 302 [.sl dgE a, i64 (-(n : Int))] [] (.own 0) [(0, dArr (digs (val a / 2 ^ n)))] := by
  refine calls_own tok mix Tryz.func302 rfl rfl rfl ?_
  refine Br.mk (fun h => ?_) (fun h => ?_)
  · have hn0 : n = 0 := by omega
    subst hn0
    refine CallV.fresh _ _ (show CallsG Tryz.prog _ [.sl dgE a, i64 (minL (-((0 : Nat) : Int)) [4096])] [] (.own 0) [(0, dArr (digs (val a / 2 ^ 0)))] by
      have := r1_up a 0 ha (by omega)
      rw [show minL (-((0 : Nat) : Int)) [4096] = 0 by decide, Nat.pow_zero, Nat.div_one]
      rw [Nat.pow_zero, Nat.mul_one] at this
      exact this) rfl (dArr_flat _) (.inr (dArr_scalar _)) ?_
    exact ⟨some 0, .own _ rfl, rfl, fun _ _ => rfl⟩
  intro hl
  refine Ar.fit (by omega) ?_
  refine Br.mk (fun h2 => ?_) (fun h2 => ?_)
  · refine ⟨Dig, dgE, [], rfl, Ob.mk dNone ?_⟩
    refine ⟨some 0, .own _ rfl, ?_, fun _ _ => rfl⟩
    have e : val a / 2 ^ n = 0 := by
      refine Nat.div_eq_of_lt (Nat.lt_of_lt_of_le (val_lt a) ?_)
      rw [pow32]
      exact Nat.pow_le_pow_right (by decide) (by omega)
    rw [e, digs_zero]; rfl
  refine ⟨Dig, dgE, [], rfl, Ob.mk dNone ?_⟩
  refine Ar.fit (by omega) ?_
  refine Dv.pos ⟨by omega, by omega, by show _ ≤ (9223372036854775807 : Int); omega⟩ ?_
  refine ⟨Nat × List Dig, fun ⟨i, out⟩ => ⟨[(6, i64 ((n / 32 + i : Nat))), (5, .own 0), (0, .sl dgE a), (1, i64 (-(n : Int)))], [(0, dArr out)], 1, 51, 0⟩,
    fun q => q.1 + n / 32 ≤ a.length ∧ q.2.length = q.1 ∧ ∀ j, j < q.2.length → dig q.2 j = val a / 2 ^ n / 4294967296 ^ j % 4294967296, fun q => a.length - q.1, (0, []), ?_, ?_, ?_⟩
  · exact ⟨by dsimp only; omega, rfl, fun j h => by simp at h⟩
  · exact sub_of [(0, some 0)] rfl rfl rfl ⟨congrArg (fun n => some (i64 n)) (by omega), rfl, rfl, rfl, trivial⟩ ⟨rfl, trivial⟩
  rintro ⟨i, out⟩ ⟨g1, g2, g3⟩
  dsimp only at g1 g2 g3
  intro hl1
  refine Br.mk (fun h5 => ?_) (fun h5 => ?_)
  · have d1 := dig_lt a (n / 32 + i)
    have d2 := dig_lt a (n / 32 + i + 1)
    have hw : (((n / 32 + i : Nat) : Int) + 1).toNat = n / 32 + i + 1 := by omega
    refine Ar.fit (by omega) ?_
    refine CallV.to _ (r1_digit a _ (by omega)) rfl ?_
    rw [hw]
    refine Ob.mk (by decide) ?_
    refine Ar.fit (by simp only [Int.reducePow]; omega) ?_
    refine CallV.to _ (r1_digit a _ (by omega)) rfl ?_
    simp only [Int.toNat_natCast]
    refine Ar.fit (by simp only [Int.reducePow]; omega) ?_
    refine Ar.fit (by omega) ?_
    refine Dv.pos ⟨by omega, by omega⟩ ?_
    refine Ar.fit (by omega) ?_
    refine Ob.mk (by show _ ∧ _ < (64 : Int); omega) ?_
    refine Ar.wrap ?_
    have es : ((-(-(n : Int))) % 32).toNat = n % 32 := by omega
    refine ⟨Dig, dgE, [dof ((dig a (n / 32 + i + 1) * 4294967296 + dig a (n / 32 + i)) / 2 ^ (n % 32))], congrArg (fun n => [u32 n]) (dofW (by rw [es]; simp)), Ob.mk (dOne _) ?_⟩
    refine ⟨_, rfl, Ob.mk (dApp (by simp; omega)) ?_⟩
    refine Ar.fit (by omega) ?_
    refine ⟨(i + 1, out ++ [dof ((dig a (n / 32 + i + 1) * 4294967296 + dig a (n / 32 + i)) / 2 ^ (n % 32))]), ⟨by dsimp only; omega, by simp [g2], ?_⟩,
      sub_of [(0, some 2)] rfl rfl rfl ⟨congrArg (fun n => some (i64 n)) (by omega), rfl, rfl, rfl, trivial⟩ ⟨rfl, trivial⟩, by dsimp only; omega⟩
    intro j hj
    dsimp only at hj ⊢
    rw [List.length_append, List.length_singleton] at hj
    rw [dig_append]
    split
    · exact g3 j (by omega)
    · have hji : j = i := by omega
      subst hji
      have := shr_dig a (n / 32) (n % 32) j (by omega)
      rw [show 32 * (n / 32) + n % 32 = n by omega] at this
      rw [this, g2, Nat.sub_self, dig_cons_zero, dof_val]
  · refine CallV.fresh _ _ (r1_normalize _ (by omega)) rfl (dArr_flat _) (.inr (dArr_scalar _)) ?_
    refine ⟨some 1, .own _ rfl, ?_, fun _ _ => rfl⟩
    have e : val out = val a / 2 ^ n := by
      rw [val_of_digs g3, Nat.mod_eq_of_lt]
      rw [Nat.div_lt_iff_lt_mul (Nat.pow_pos (by decide))]
      refine Nat.lt_of_lt_of_le (val_lt a) ?_
      rw [pow32, pow32, ← Nat.pow_add]
      exact Nat.pow_le_pow_right (by decide) (by omega)
    rw [← e]; rfl

theorem r1_shlP (a : List Dig) (n : Nat) (ha : a.length ≤ 800000000) (hn : n ≤ 4096) :
    CallsG Tryz.prog 302 [.sl dgE a, i64 n] [] (.sl dgE (digs (val a * 2 ^ n))) [] := (r1_shl a n ha hn).plain rfl

theorem r1_shrP (a : List Dig) (n : Nat) (ha : a.length ≤ 800000000) (hn : n ≤ 1000000000000) :
    CallsG Tryz.prog 302 [.sl dgE a, i64 (-(n : Int))] [] (.sl dgE (digs (val a / 2 ^ n))) [] := (r1_shr a n ha hn).plain rfl

end Go.Gs
/- Natural numbers, the other text: quotients. -/
namespace Go.Gs
open Go.Proofs

/-- A quotient's digit is no greater than what its first digits say. -/
theorem est_ge {r b : List Dig} (hb : dig b (b.length - 1) ≠ 0) (hlt : val r < 4294967296 * val b) :
    val r / val b ≤ (dig r b.length * 4294967296 + dig r (b.length - 1)) / dig b (b.length - 1) := by
  have hl : 0 < b.length := by
    rcases Nat.eq_zero_or_pos b.length with h | h
    · rw [List.length_eq_zero_iff.1 h] at hb; exact absurd rfl hb
    · exact h
  have e1 := val_split b (b.length - 1)
  have e3 := val_drop_cons b (b.length - 1)
  rw [show b.length - 1 + 1 = b.length by omega, val_drop_out (Nat.le_refl _), Nat.mul_zero, Nat.add_zero] at e3
  have r1 := val_split r (b.length - 1)
  have r2 := val_take_lt r (b.length - 1)
  have r3 := val_drop_cons r (b.length - 1)
  have r4 := val_drop_cons r b.length
  rw [show b.length - 1 + 1 = b.length by omega] at r3
  have hbl := val_lt b
  have hpow : 4294967296 ^ b.length = 4294967296 ^ (b.length - 1) * 4294967296 := by rw [← Nat.pow_succ]; congr 1; omega
  have r5 : val (r.drop (b.length + 1)) = 0 := by
    rw [val_drop]
    refine Nat.div_eq_of_lt (Nat.lt_trans hlt ?_)
    rw [Nat.pow_succ, Nat.mul_comm]
    exact Nat.mul_lt_mul_of_pos_right hbl (by decide)
  rw [r5, Nat.mul_zero, Nat.add_zero] at r4
  rw [r4] at r3
  rw [e3] at e1
  rw [r3] at r1
  have hp := pow_pos' (b.length - 1)
  generalize 4294967296 ^ (b.length - 1) = p at *
  generalize dig b (b.length - 1) = t at *
  generalize dig r (b.length - 1) = x at *
  generalize dig r b.length = y at *
  rw [Nat.le_div_iff_mul_le (by omega)]
  have h6 := Nat.div_mul_le_self (val r) (val b)
  generalize val r / val b = q at *
  have h7 : q * (p * t) ≤ q * val b := Nat.mul_le_mul_left _ (by omega)
  have h8 : p * (q * t) < p * (x + 4294967296 * y + 1) := by
    have : q * (p * t) = p * (q * t) := by rw [← Nat.mul_assoc, Nat.mul_comm q p, Nat.mul_assoc]
    rw [Nat.mul_add p _ 1]
    omega
  have := Nat.lt_of_mul_lt_mul_left h8
  omega

theorem minL_dig {a q : Nat} {e : Int} (he : e = a) (ha : q ≤ a) (hb : q < 4294967296) : ∃ m : Nat, m < 4294967296 ∧ q ≤ m ∧ minL e [4294967295] = m := by
  rcases Int.le_total e 4294967295 with h | h
  · exact ⟨a, by omega, ha, by simp only [minL]; rw [Int.min_eq_left h, he]⟩
  · exact ⟨4294967295, by omega, by omega, by simp only [minL]; rw [Int.min_eq_right h]; simp⟩

set_option maxRecDepth 100000 in
theorem r1_often (r b : List Dig) (hr : r.length ≤ 800000000) (hb : b.length ≤ 800000000) (ht : dig b (b.length - 1) ≠ 0) (hlt : val r < 4294967296 * val b) :
    CallsG Tryz.prog 303 [.sl dgE r, .sl dgE b] [] (.tup [u64 ((val r / val b : Nat) : Int), .own 0]) [(0, dArr (digs (val r % val b)))] := by
  refine calls_own tok mix Tryz.func303 rfl rfl rfl ?_
  have hl : 0 < b.length := by
    rcases Nat.eq_zero_or_pos b.length with h | h
    · rw [List.length_eq_zero_iff.1 h] at ht; exact absurd rfl ht
    · exact h
  have hbp : 0 < val b := by
    rcases Nat.eq_zero_or_pos (val b) with h | h
    · rw [h] at hlt; omega
    · exact h
  have hest := est_ge ht hlt
  have hq : val r / val b < 4294967296 := by rw [Nat.div_lt_iff_lt_mul hbp]; exact hlt
  have d1 := dig_lt r b.length
  have d2 := dig_lt r (b.length - 1)
  have d3 := dig_lt b (b.length - 1)
  intro hl0
  refine Dr.mk (by decide +kernel) ?_
  refine CallV.to _ (r1_digit r _ (by omega)) rfl ?_
  rw [Int.toNat_natCast]
  refine Ob.mk (by decide) ?_
  refine Ar.fit (by simp only [Int.reducePow]; omega) ?_
  refine Ar.fit (by omega) ?_
  refine CallV.to _ (r1_digit r _ (by omega)) rfl ?_
  rw [show ((b.length : Int) - 1).toNat = b.length - 1 by omega]
  refine Ar.fit (by simp only [Int.reducePow]; omega) ?_
  refine Ar.fit (by omega) ?_
  refine Ob.mk (by omega) ?_
  intro x hx
  rw [show ((b.length : Int) - 1).toNat = b.length - 1 by omega] at hx
  have dx := dig_some hx
  rw [dx] at ht hest d3
  refine Ar.fit (by omega) ?_
  refine Dv.pos ⟨by simp only [Int.reducePow]; omega, by omega, by show _ ≤ (18446744073709551615 : Int); simp only [Int.reducePow]; omega⟩ ?_
  obtain ⟨m, hm1, hm2, em⟩ := minL_dig (e := ((dig r b.length : Nat) * 2 ^ 32 + (dig r (b.length - 1) : Nat) : Int) / ((x.val : Nat) : Int)) (by simp) hest hq
  clear hest
  refine CallV.to _ (show CallsG Tryz.prog _ [.sl dgE b, u64 (minL (((dig r b.length : Nat) * 2 ^ 32 + (dig r (b.length - 1) : Nat) : Int) / ((x.val : Nat) : Int)) [4294967295])] [] (.sl dgE (digs (val b * m))) [] by
    rw [em]; exact r1_timesP b m (by omega) (by omega)) rfl ?_
  refine ⟨Nat, fun d => ⟨[(8, u64 d), (9, .sl dgE (digs (val b * d))), (0, .sl dgE r), (1, .sl dgE b)], [], 0, 55, 0⟩, fun d => val r / val b ≤ d ∧ d < 4294967296, fun d => d, m, ?_, ?_, ?_⟩
  · exact ⟨hm2, by omega⟩
  · exact sub_of [] rfl rfl rfl ⟨congrArg (fun n => some (u64 n)) em, rfl, rfl, rfl, trivial⟩ trivial
  rintro d ⟨h1, h2⟩
  have hlen : (digs (val b * d)).length ≤ b.length + 1 := digs_len (by
    rw [Nat.pow_succ]
    exact Nat.mul_lt_mul_of_lt_of_lt (val_lt b) h2)
  refine CallV.to _ (r1_cmp _ r (by omega) (by omega)) rfl ?_
  rw [val_digs]
  refine Br.mk (fun h3 => ?_) (fun h3 => ?_)
  · have h3 := cmpN_gt.1 h3
    have hd : 1 ≤ d := by
      rcases Nat.eq_zero_or_pos d with h | h
      · subst h; omega
      · exact h
    have hq' : val r / val b ≤ d - 1 := by
      have : val r / val b < d := by rw [Nat.div_lt_iff_lt_mul hbp, Nat.mul_comm]; exact h3
      omega
    refine Ar.fit (by omega) ?_
    refine CallV.to _ (r1_subP _ b (by omega) (by omega)) rfl ?_
    rw [val_digs]
    refine ⟨d - 1, ⟨hq', by omega⟩, sub_of [] rfl rfl rfl ⟨congrArg (fun n => some (u64 n)) (by omega), congrArg (fun n => some (SV.sl dgE (digs n))) (show val b * d - val b = val b * (d - 1) by rw [Nat.mul_sub, Nat.mul_one]), rfl, rfl, trivial⟩ trivial, by dsimp only; omega⟩
  · have h3 : val b * d ≤ val r := Nat.le_of_not_lt fun h => h3 (cmpN_gt.2 h)
    have hd : d = val r / val b := by
      have : d ≤ val r / val b := by rw [Nat.le_div_iff_mul_le hbp, Nat.mul_comm]; exact h3
      omega
    refine CallV.fresh _ _ (r1_sub r _ (by omega) (by omega)) rfl (dArr_flat _) (.inr (dArr_scalar _)) ?_
    refine ⟨some 0, take_tup (.cons (take_int (by rw [hd])) (.cons (.own _ rfl) .nil)), ?_, fun _ _ => rfl⟩
    have e : val r - val (digs (val b * d)) = val r % val b := by
      rw [val_digs, hd]
      have := Nat.div_add_mod (val r) (val b)
      omega
    rw [← e]; rfl

end Go.Gs
/- Natural numbers, the other text: quotient and remainder. -/
namespace Go.Gs
open Go.Proofs

theorem div_step {u q V d l w B qd rr nx : Nat} (h : w = V * qd + rr) (hn : nx = u + B * rr) (hd : V * d + l = nx) (hq : q = d + B * qd) : u + B * w = V * q + l := by
  subst h; subst hq; grind

theorem drop_set_self {xs : List Dig} {i : Nat} {d : Dig} (h : i < xs.length) : val ((xs.set i d).drop i) = d.val + 4294967296 * val (xs.drop (i + 1)) := by
  rw [val_drop_cons, dig_set, if_pos ⟨rfl, h⟩, List.drop_set_of_lt (by omega)]

set_option maxRecDepth 100000 in
set_option maxHeartbeats 1000000 in
theorem r1_divmod (a b : List Dig) (ha : a.length ≤ 400000000) (hb : b.length ≤ 400000000) (hb0 : val b ≠ 0) :
    CallsG Tryz.prog 273 [.sl dgE a, .sl dgE b] [] (.tup [.sl dgE (digs (val a / val b)), .sl dgE (digs (val a % val b)), i64 0]) [] := by
  refine calls_to tok mix Tryz.func273 rfl rfl rfl ?_
  refine CallV.to _ (r1_normalizeP _ (by omega)) rfl ?_
  intro hl
  have hlen := digs_val_len b
  refine Br.mk (fun h => ?_) (fun h => ?_)
  · have : digs (val b) = [] := List.length_eq_zero_iff.1 (by omega)
    exact absurd (digs_nil.1 this) hb0
  have hne : digs (val b) ≠ [] := fun e => hb0 (digs_nil.1 e)
  have hnorm := (normd_digs (val b)).resolve_left hne
  have htop := nbits_top hnorm
  rw [val_digs] at htop
  have hbits := nbits_val_le (digs (val b))
  rw [val_digs] at hbits
  have hpos := nbits_pos.2 hb0
  have hnt : 0 < nbits (dig (digs (val b)) ((digs (val b)).length - 1)) := nbits_pos.2 hnorm
  intro hl2
  refine Ar.fit (by omega) ?_
  refine CallV.to _ (r1_bitlen _ (by omega)) rfl ?_
  rw [val_digs]
  refine Ar.fit (by omega) ?_
  obtain ⟨s, hs⟩ : ∃ s : Nat, (32 * ((digs (val b)).length : Int) - (nbits (val b) : Int)) = s := ⟨32 * (digs (val b)).length - nbits (val b), by omega⟩
  rw [hs]
  have hs32 : s < 32 := by omega
  refine CallV.to _ (r1_shlP a s (by omega) (by omega)) rfl ?_
  refine CallV.to _ (r1_shlP (digs (val b)) s (by omega) (by omega)) rfl ?_
  rw [val_digs]
  have hpow : 2 ^ s ≤ 4294967296 ^ 1 := by rw [pow32]; exact Nat.pow_le_pow_right (by decide) (by omega)
  have hpow0 : 0 < 2 ^ s := Nat.pow_pos (by decide)
  have hUl : (digs (val a * 2 ^ s)).length ≤ a.length + 1 := digs_len (by
    rw [Nat.pow_add]
    exact Nat.lt_of_lt_of_le (Nat.mul_lt_mul_of_pos_right (val_lt a) hpow0) (Nat.mul_le_mul_left _ hpow))
  have hVl : (digs (val b * 2 ^ s)).length ≤ b.length + 1 := digs_len (by
    rw [Nat.pow_add]
    exact Nat.lt_of_lt_of_le (Nat.mul_lt_mul_of_pos_right (val_lt b) hpow0) (Nat.mul_le_mul_left _ hpow))
  have hV0 : val b * 2 ^ s ≠ 0 := Nat.mul_ne_zero hb0 (by omega)
  have eq1 : val a / val b = val a * 2 ^ s / (val b * 2 ^ s) := (Nat.mul_div_mul_right _ _ hpow0).symm
  have eq2 : val a % val b = val a * 2 ^ s % (val b * 2 ^ s) / 2 ^ s := by rw [Nat.mul_mod_mul_right, Nat.mul_div_cancel _ hpow0]
  rw [eq1, eq2]
  clear eq1 eq2 hpow hnt hnorm htop hpos hbits
  generalize val a * 2 ^ s = U at *
  generalize val b * 2 ^ s = V at *
  have hvn := (normd_digs V).resolve_left fun e => hV0 (digs_nil.1 e)
  intro hl3
  refine ⟨Dig, dgE, 0, rfl, Ob.mk ⟨by decide, by omega, by omega, (by show _ * (4 : Int) ≤ _; omega), by omega⟩ ?_⟩
  refine ⟨Dig, dgE, [], rfl, Ob.mk dNone ?_⟩
  intro hl4
  refine Ar.fit (by omega) ?_
  refine ⟨Nat × List Dig × List Dig, fun ⟨j, q, r⟩ => ⟨[(13, i64 ((j : Int) - 1)), (12, .own 1), (11, .own 0), (9, .sl dgE (digs U)), (10, .sl dgE (digs V)), (8, i64 s)], [(1, dArr r), (0, dArr q)], 2, 83, 0⟩,
    fun x => x.1 ≤ (digs U).length ∧ x.2.1.length = (digs U).length ∧ x.2.2.length ≤ (digs V).length ∧ val ((digs U).drop x.1) = V * val (x.2.1.drop x.1) + val x.2.2 ∧ val x.2.2 < V, fun x => x.1,
    ((digs U).length, List.replicate (digs U).length 0, []), ?_, ?_, ?_⟩
  · refine ⟨Nat.le_refl _, by simp, by simp, ?_, by dsimp only; rw [val_nil]; omega⟩
    dsimp only
    rw [val_drop_out (Nat.le_refl _), val_drop_out (by simp), val_nil, Nat.mul_zero]
  · exact sub_of [(0, some 0), (1, some 1)] rfl rfl rfl ⟨rfl, rfl, rfl, rfl, rfl, rfl, trivial⟩ ⟨rfl, congrArg (fun n => some (dArr (List.replicate n 0))) (by omega), trivial⟩
  rintro ⟨j, q, r⟩ ⟨g1, g2, g3, g4, g5⟩
  dsimp only at g1 g2 g3 g4 g5
  refine Br.mk (fun k1 => ?_) (fun k1 => ?_)
  · refine Ob.mk (by omega) ?_
    intro x hx
    rw [show ((j : Int) - 1).toNat = j - 1 by omega] at hx
    have dx := dig_some hx
    have hxl := x.isLt
    refine ⟨Dig, dgE, [x], rfl, Ob.mk (dOne x) ?_⟩
    refine ⟨Nat, fun k => ⟨[(15, i64 k), (14, .own 2), (13, i64 ((j : Int) - 1)), (12, .own 1), (11, .own 0), (9, .sl dgE (digs U)), (10, .sl dgE (digs V)), (8, i64 s)], [(2, dArr (x :: r.take k)), (1, dArr r), (0, dArr q)], 3, 83, 0⟩,
      fun k => k ≤ r.length, fun k => r.length - k, 0, ?_, ?_, ?_⟩
    · exact Nat.zero_le _
    · exact sub_of [(0, some 0), (1, some 1), (2, some 2)] rfl rfl rfl ⟨rfl, rfl, rfl, rfl, rfl, rfl, rfl, rfl, trivial⟩ ⟨rfl, rfl, rfl, trivial⟩
    intro k hk
    have hk : k ≤ r.length := hk
    intro hl5
    refine Br.mk (fun k2 => ?_) (fun k2 => ?_)
    · refine Ob.mk (by omega) ?_
      refine Ob.mk (by omega) ?_
      intro y hy
      have hy : r[k]? = some y := hy
      refine ⟨Dig, dgE, [y], rfl, Ob.mk (dOne y) ?_⟩
      refine ⟨_, rfl, Ob.mk (dApp (by simp; omega)) ?_⟩
      refine Ar.fit (by omega) ?_
      refine ⟨k + 1, by show k + 1 ≤ r.length; omega, sub_of [(0, some 0), (1, some 1), (2, some 4)] rfl rfl rfl ⟨rfl, rfl, rfl, rfl, rfl, rfl, rfl, rfl, trivial⟩
        ⟨congrArg (fun l => some (dArr l)) (by rw [List.take_add_one, hy]; rfl), rfl, rfl, trivial⟩, by dsimp only; omega⟩
    · have hkr : k = r.length := by omega
      subst hkr
      have hnx : val (x :: r) < 4294967296 * V := by rw [val_cons]; omega
      have hnl : (digs (val (x :: r))).length ≤ r.length + 1 := digs_val_len (x :: r)
      refine CallV.fresh _ _ (r1_normalize _ (by simp; omega)) rfl (dArr_flat _) (.inr (dArr_scalar _)) ?_
      rw [List.take_length]
      refine CallV.fresh _ _ (r1_often _ (digs V) (by omega) (by omega) hvn (by rw [val_digs, val_digs]; exact hnx)) rfl (dArr_flat _) (.inr (dArr_scalar _)) ?_
      rw [val_digs, val_digs]
      have hdl : val (x :: r) / V < 4294967296 := by rw [Nat.div_lt_iff_lt_mul (by omega)]; exact hnx
      have hml : val (x :: r) % V < V := Nat.mod_lt _ (by omega)
      have hdm := Nat.div_add_mod (val (x :: r)) V
      generalize val (x :: r) / V = dq at *
      generalize hmd : val (x :: r) % V = md at *
      refine Ar.fit (by omega) ?_
      refine Ob.mk (by omega) ?_
      refine Ob.mk (by omega) ?_
      intro z hz
      refine ⟨dof dq, congrArg (fun n => [u32 n]) (by rw [dof_val, Nat.mod_eq_of_lt hdl]), ?_⟩
      refine Ar.fit (by omega) ?_
      refine ⟨(j - 1, q.set (j - 1) (dof dq), digs md), ⟨by dsimp only; omega, by simp [g2], digs_mono (Nat.le_of_lt hml), ?_, by dsimp only; rw [val_digs]; exact hml⟩,
        sub_of [(0, some 0), (1, some 4)] rfl rfl rfl ⟨congrArg (fun n => some (i64 n)) (by omega), rfl, rfl, rfl, rfl, rfl, trivial⟩ ⟨rfl, congrArg (fun n => some (dArr (q.set n _))) (by omega), trivial⟩, by dsimp only; omega⟩
      dsimp only
      rw [val_digs, val_drop_cons (digs U), dx, show j - 1 + 1 = j by omega]
      refine div_step g4 (val_cons x r) hdm ?_
      rw [drop_set_self (by omega), dof_val, Nat.mod_eq_of_lt hdl, show j - 1 + 1 = j by omega]
  · have hj : j = 0 := by omega
    subst hj
    rw [List.drop_zero, List.drop_zero, val_digs] at g4
    refine CallV.fresh _ _ (r1_normalize _ (by omega)) rfl (dArr_flat _) (.inr (dArr_scalar _)) ?_
    refine Ar.fit (by omega) ?_
    refine CallV.fresh _ _ (r1_shr r s (by omega) (by omega)) rfl (dArr_flat _) (.inr (dArr_scalar _)) ?_
    have e1 : val q = U / V := by
      rw [g4, Nat.mul_add_div (by omega), Nat.div_eq_of_lt g5, Nat.add_zero]
    have e2 : val r = U % V := by
      rw [g4, Nat.mul_add_mod, Nat.mod_eq_of_lt g5]
    exact LE_tup (.cons (LE_sl (by rw [e1])) (.cons (LE_sl (by rw [e2])) (.cons .refl .nil)))

end Go.Gs
/- Integers as a sign and a row of digits. -/
namespace Go.Gs

structure BI where
  neg : Bool
  mag : List Dig
  deriving DecidableEq
/-- What it stands for. -/
def BI.v (a : BI) : Int := if a.neg then -(val a.mag : Int) else val a.mag
/-- The integer, normalized. -/
def ofZ (z : Int) : BI := ⟨decide (z < 0), digs z.natAbs⟩
theorem ofZ_v (z : Int) : (ofZ z).v = z := by
  unfold BI.v ofZ
  simp only [val_digs, decide_eq_true_eq]
  split <;> omega
theorem BI.v_abs (a : BI) : a.v.natAbs = val a.mag := by unfold BI.v; split <;> omega
theorem BI.v_eq (a : BI) : (a.neg = true ∧ a.v = -(val a.mag : Int)) ∨ (a.neg = false ∧ a.v = (val a.mag : Int)) := by
  unfold BI.v; cases a.neg <;> simp
theorem ofZ_neg (z : Int) : (ofZ z).neg = true ↔ z < 0 := by simp [ofZ]
theorem ofZ_mag (z : Int) : (ofZ z).mag = digs z.natAbs := rfl
/-- How many digits. -/
def zlen (z : Int) : Nat := (digs z.natAbs).length
theorem zlen_le {z : Int} {k : Nat} (h : z.natAbs < 4294967296 ^ k) : zlen z ≤ k := digs_len h
theorem zlen_lt {z : Int} {k : Nat} (h : zlen z ≤ k) : z.natAbs < 4294967296 ^ k := digs_lt h
theorem zlen_neg (z : Int) : zlen (-z) = zlen z := by simp [zlen]
theorem zlen_mul (x y : Int) : zlen (x * y) ≤ zlen x + zlen y := by
  refine zlen_le ?_
  rw [Int.natAbs_mul, Nat.pow_add]
  exact Nat.mul_lt_mul_of_lt_of_lt (zlen_lt (Nat.le_refl _)) (zlen_lt (Nat.le_refl _))
theorem zlen_add (x y : Int) : zlen (x + y) ≤ max (zlen x) (zlen y) + 1 := by
  refine zlen_le ?_
  have h1 := zlen_lt (Nat.le_max_left (zlen x) (zlen y))
  have h2 := zlen_lt (Nat.le_max_right (zlen x) (zlen y))
  rw [Nat.pow_succ]
  have := Int.natAbs_add_le x y
  omega
theorem zlen_sub (x y : Int) : zlen (x - y) ≤ max (zlen x) (zlen y) + 1 := by
  have := zlen_add x (-y)
  rwa [zlen_neg, ← Int.sub_eq_add_neg] at this
theorem zlen_v (a : BI) : zlen a.v ≤ a.mag.length := by
  unfold zlen; rw [BI.v_abs]; exact digs_val_len _
theorem zlen_mono {x y : Int} (h : x.natAbs ≤ y.natAbs) : zlen x ≤ zlen y := digs_mono h
theorem zlen_i64 {n : Int} (h : -9223372036854775808 ≤ n ∧ n ≤ 9223372036854775807) : zlen n ≤ 2 := zlen_le (by
  rw [show 4294967296 ^ 2 = 18446744073709551616 by decide]; omega)

/-- The quotient, rounded to the nearest, halves away from zero. -/
def rdiv (a b : Int) : Int :=
  if a < 0 ↔ b < 0 then ((2 * a.natAbs + b.natAbs) / (2 * b.natAbs) : Nat) else -((2 * a.natAbs + b.natAbs) / (2 * b.natAbs) : Nat)
theorem rdiv_abs (a b : Int) : (rdiv a b).natAbs = (2 * a.natAbs + b.natAbs) / (2 * b.natAbs) := by
  unfold rdiv
  generalize (2 * a.natAbs + b.natAbs) / (2 * b.natAbs) = q
  split <;> omega

end Go.Gs
/- Integers, the other text: what rounded division needs. -/
namespace Go.Gs
open Go.Proofs

def biE (a : BI) : List SV := [pr (a.neg = true), .sl dgE a.mag]

theorem r2_new (p : Prop) [i : Decidable p] (m : List Dig) (hm : m.length ≤ 1000000000) :
    CallsG Tryz.prog 104 [.pr p i, .sl dgE m] [] (.agg (biE (ofZ (if p then -(val m : Int) else val m)))) [] := by
  refine calls_to tok mix Tryz.func104 rfl rfl rfl ?_
  refine CallV.to _ (r1_normalizeP m hm) rfl ?_
  refine Br.mk (fun h => ?_) (fun h => ?_)
  · intro hl
    refine LE_agg (.cons (LE_pr ?_) (.cons (LE_sl ?_) .nil))
    · rw [if_pos h, ofZ_neg]
      have := digs_len_pos (n := val m)
      omega
    · rw [if_pos h, ofZ_mag]; congr 1; omega
  · refine LE_agg (.cons (LE_false ?_) (.cons (LE_sl ?_) .nil))
    · rw [if_neg h, ofZ_neg]; omega
    · rw [if_neg h, ofZ_mag]; congr 1

theorem r2_newv (a : BI) (hm : a.mag.length ≤ 1000000000) :
    CallsG Tryz.prog 104 [pr (a.neg = true), .sl dgE a.mag] [] (.agg (biE (ofZ a.v))) [] := r2_new (a.neg = true) a.mag hm

theorem dTwo (c d : Dig) : [c, d].length = 2 ∧ 2 ≤ 281474976710656 ∧ 2 * 1 ≤ 16777216 ∧ 0 < 1 ∧ ∀ x ∈ [c, d], (dgE x).length = 1 ∧ cellsB (dgE x) = true ∧ flat.flats (dgE x) = true :=
  ⟨rfl, by decide, by decide, by decide, fun _ _ => ⟨rfl, rfl, rfl⟩⟩
theorem val_two (m : Nat) (h : m < 18446744073709551616) : val [dof m, dof (m / 4294967296)] = m := by
  simp only [val, dof_val]; omega

theorem r2_fromint (n : Int) (hn : R64 n) : CallsG Tryz.prog 74 [i64 n] [] (.agg (biE (ofZ n))) [] := by
  refine calls_to tok mix Tryz.func74 rfl rfl rfl ?_
  refine Ar.wrap ?_
  refine Br.mk (fun h => ?_) (fun h => ?_)
  · refine Ar.wrap ?_
    have e : IntKind.u64.wrap (0 - IntKind.u64.wrap n) = ((n.natAbs : Nat) : Int) := by rw [wrap64, wrap64]; omega
    refine Ar.wrap ?_
    refine Ob.mk (by decide) ?_
    refine Ar.wrap ?_
    refine ⟨Dig, dgE, [dof n.natAbs, dof (n.natAbs / 4294967296)], congr (congrArg (fun n m => [u32 n, u32 m]) (dofW e)) (dofW (by rw [e]; simp only [Int.reducePow]; omega)), Ob.mk (dTwo _ _) ?_⟩
    refine CallV.see 1 _ (r2_new (n < 0) [dof n.natAbs, dof (n.natAbs / 4294967296)] (by simp)) rfl rfl rfl ?_
    rw [if_pos h, val_two _ (by omega), show (-(n.natAbs : Int)) = n by omega]
    exact .refl
  · have e : IntKind.u64.wrap n = ((n.natAbs : Nat) : Int) := by rw [wrap64]; omega
    refine Ar.wrap ?_
    refine Ob.mk (by decide) ?_
    refine Ar.wrap ?_
    refine ⟨Dig, dgE, [dof n.natAbs, dof (n.natAbs / 4294967296)], congr (congrArg (fun n m => [u32 n, u32 m]) (dofW e)) (dofW (by rw [e]; simp only [Int.reducePow]; omega)), Ob.mk (dTwo _ _) ?_⟩
    refine CallV.see 1 _ (r2_new (n < 0) [dof n.natAbs, dof (n.natAbs / 4294967296)] (by simp)) rfl rfl rfl ?_
    rw [if_neg h, val_two _ (by omega), show (n.natAbs : Int) = n by omega]
    exact .refl

theorem r2_sign (a : BI) (ha : a.mag.length ≤ 1000000000) : CallsG Tryz.prog 158 [.agg (biE a)] [] (i64 a.v.sign) [] := by
  refine calls_to tok mix Tryz.func158 rfl rfl rfl ?_
  refine CallV.to _ (r2_newv a ha) rfl ?_
  intro hl
  have h1 := digs_len_pos (n := a.v.natAbs)
  refine Br.mk (fun h => ?_) (fun h => ?_)
  · have : a.v = 0 := by rw [ofZ_mag] at h; omega
    exact LE_int (by rw [this]; rfl)
  have h0 : a.v ≠ 0 := by rw [ofZ_mag] at h; omega
  refine Br.mk (fun h2 => ?_) (fun h2 => ?_)
  · rw [ofZ_neg] at h2
    exact LE_int (Int.sign_eq_neg_one_of_neg h2).symm
  · rw [ofZ_neg] at h2
    exact LE_int (Int.sign_eq_one_of_pos (by omega)).symm

/-- The sign of a product. -/
theorem v_mul (a b : BI) : (if ¬ (a.neg = true ↔ b.neg = true) then -((val a.mag * val b.mag : Nat) : Int) else ((val a.mag * val b.mag : Nat) : Int)) = a.v * b.v := by
  rcases a.v_eq with ⟨h1, h2⟩ | ⟨h1, h2⟩ <;> rcases b.v_eq with ⟨h3, h4⟩ | ⟨h3, h4⟩ <;> simp [h1, h2, h3, h4, Int.neg_mul, Int.mul_neg]

theorem r2_mul (a b : BI) (ha : a.mag.length ≤ 400000000) (hb : b.mag.length ≤ 400000000) : CallsG Tryz.prog 219 [.agg (biE a), .agg (biE b)] [] (.agg (biE (ofZ (a.v * b.v)))) [] := by
  refine calls_to tok mix Tryz.func219 rfl rfl rfl ?_
  refine Dr.mk (by decide +kernel) ?_
  refine CallV.to _ (r1_mulP a.mag b.mag ha hb) rfl ?_
  have hl : (digs (val a.mag * val b.mag)).length ≤ 1000000000 := by
    refine Nat.le_trans (digs_len (k := a.mag.length + b.mag.length) ?_) (by omega)
    rw [Nat.pow_add]; exact Nat.mul_lt_mul_of_lt_of_lt (val_lt _) (val_lt _)
  refine CallV.to _ (r2_new (¬ (a.neg = true ↔ b.neg = true)) _ hl) rfl ?_
  rw [val_digs, v_mul]
  exact .refl

end Go.Gs
/- Rounded division, the other text. -/
namespace Go.Gs
open Go.Proofs

theorem v_rdiv (a b : BI) (hb : b.v ≠ 0) : (if ¬ (a.neg = true ↔ b.neg = true) then -(((val a.mag + val a.mag + val b.mag) / (val b.mag + val b.mag) : Nat) : Int) else (((val a.mag + val a.mag + val b.mag) / (val b.mag + val b.mag) : Nat) : Int)) = rdiv a.v b.v := by
  unfold rdiv
  rw [BI.v_abs, BI.v_abs, Nat.two_mul, Nat.two_mul]
  by_cases h0 : val a.mag = 0
  · have e : (val a.mag + val a.mag + val b.mag) / (val b.mag + val b.mag) = 0 := by
      rw [h0]
      refine Nat.div_eq_of_lt ?_
      rcases b.v_eq with ⟨h1, h2⟩ | ⟨h1, h2⟩ <;> omega
    rw [e]; simp
  · generalize ((val a.mag + val a.mag + val b.mag) / (val b.mag + val b.mag)) = q
    have e : (a.neg = true ↔ b.neg = true) ↔ (a.v < 0 ↔ b.v < 0) := by
      rcases a.v_eq with ⟨h1, h2⟩ | ⟨h1, h2⟩ <;> rcases b.v_eq with ⟨h3, h4⟩ | ⟨h3, h4⟩ <;> simp only [h1, h3] <;> simp <;> omega
    by_cases h : (a.v < 0 ↔ b.v < 0)
    · rw [if_neg (not_not_intro (e.2 h)), if_pos h]
    · rw [if_pos (fun hh => h (e.1 hh)), if_neg h]

theorem dadd_len {a b : List Dig} {k : Nat} (ha : a.length ≤ k) (hb : b.length ≤ k) : (digs (val a + val b)).length ≤ k + 1 := by
  refine digs_len ?_
  have h1 := Nat.lt_of_lt_of_le (val_lt a) (Nat.pow_le_pow_right (show 0 < 4294967296 by decide) ha)
  have h2 := Nat.lt_of_lt_of_le (val_lt b) (Nat.pow_le_pow_right (show 0 < 4294967296 by decide) hb)
  rw [Nat.pow_succ]; omega

set_option maxRecDepth 100000 in
theorem r2_divround (a b : BI) (ha : a.mag.length ≤ 300000000) (hb : b.mag.length ≤ 300000000) (h0 : b.v ≠ 0) :
    CallsG Tryz.prog 306 [.agg (biE a), .agg (biE b)] [] (.tup [.agg (biE (ofZ (rdiv a.v b.v))), i64 0]) [] := by
  refine calls_to tok mix Tryz.func306 rfl rfl rfl ?_
  refine CallV.to _ (r2_sign b (by omega)) rfl ?_
  refine Br.mk (fun h => absurd (Int.sign_eq_zero_iff_zero.1 h) h0) (fun _ => ?_)
  refine Dr.mk (by decide +kernel) ?_
  have l1 := dadd_len ha ha
  have l2 := dadd_len hb hb
  have l3 := dadd_len l1 (show b.mag.length ≤ _ by omega)
  rw [val_digs] at l3
  have hbp : val b.mag + val b.mag ≠ 0 := by rcases b.v_eq with ⟨h1, h2⟩ | ⟨h1, h2⟩ <;> omega
  refine CallV.to _ (r1_addP a.mag a.mag (by omega) (by omega)) rfl ?_
  refine CallV.to _ (r1_addP _ b.mag (by omega) (by omega)) rfl ?_
  refine CallV.to _ (r1_addP b.mag b.mag (by omega) (by omega)) rfl ?_
  rw [val_digs]
  refine CallV.to _ (r1_divmod _ _ (by omega) (by omega) (by rw [val_digs]; exact hbp)) rfl ?_
  rw [val_digs, val_digs]
  have l4 : (digs ((val a.mag + val a.mag + val b.mag) / (val b.mag + val b.mag))).length ≤ 1000000000 := Nat.le_trans (digs_mono (Nat.div_le_self _ _)) (by omega)
  refine CallV.to _ (r2_new (¬ (a.neg = true ↔ b.neg = true)) _ l4) rfl ?_
  rw [val_digs, v_rdiv a b h0]
  exact .refl

theorem or_nat {x y : Nat} (hx : x < 18446744073709551616) (hy : y < 18446744073709551616) : bitsK .or .u64 x y = ((x ||| y : Nat) : Int) := by
  show IntKind.u64.wrap ((BitVec.ofInt 64 x ||| BitVec.ofInt 64 y).toNat : Nat) = _
  have h : x ||| y < 2 ^ 64 := Nat.or_lt_two_pow hx hy
  have e : (BitVec.ofInt 64 x ||| BitVec.ofInt 64 y).toNat = x ||| y := by
    rw [BitVec.toNat_or, BitVec.toNat_ofInt, BitVec.toNat_ofInt]
    congr 1
    · omega
    · omega
  rw [e, wrap64]; omega

/-- An integer of the machine, where it is one. -/
def fitI (z : Int) : Int := if -9223372036854775808 ≤ z ∧ z ≤ 9223372036854775807 then z else 0

set_option maxRecDepth 100000 in
theorem r2_toint (a : BI) (ha : a.mag.length ≤ 1000000000) :
    CallsG Tryz.prog 264 [.agg (biE a)] [] (.tup [i64 (fitI a.v), pr (-9223372036854775808 ≤ a.v ∧ a.v ≤ 9223372036854775807)]) [] := by
  refine calls_to tok mix Tryz.func264 rfl rfl rfl ?_
  refine CallV.to _ (r2_newv a ha) rfl ?_
  generalize a.v = z
  have bad : ¬ (-9223372036854775808 ≤ z ∧ z ≤ 9223372036854775807) → LE (.tup [i64 0, bl false]) (.tup [i64 (fitI z), pr (-9223372036854775808 ≤ z ∧ z ≤ 9223372036854775807)]) := fun h =>
    LE_tup2 (LE_int (by rw [fitI, if_neg h])) (LE_false h)
  refine ⟨Nat, fun i => ⟨[(6, i64 i), (5, u64 (val ((digs z.natAbs).take i))), (4, .loc 1 0)], [(1, .box 39 (biE (ofZ z))), (0, .box 39 (biE a))], 2, 51, 0⟩,
    fun i => i ≤ 2 ∧ i ≤ (digs z.natAbs).length, fun i => 2 - i, 0, ?_, ?_, ?_⟩
  · exact ⟨by omega, Nat.zero_le _⟩
  · exact sub_of [(0, some 0), (1, some 1)] rfl rfl rfl ⟨rfl, rfl, rfl, trivial⟩ ⟨rfl, rfl, trivial⟩
  rintro i ⟨h1, h2⟩
  intro hl
  refine Br.mk (fun h3 => ?_) (fun h3 => ?_)
  · have h3 : i < (digs z.natAbs).length := by rw [ofZ_mag] at h3; omega
    refine Br.mk (fun h4 => ?_) (fun h4 => ?_)
    · refine bad fun h5 => ?_
      have := digs_len (n := z.natAbs) (k := 2) (by rw [show 4294967296 ^ 2 = 18446744073709551616 by decide]; omega)
      omega
    · refine Ob.mk (by rw [ofZ_mag]; omega) ?_
      intro x hx
      have hx : (digs z.natAbs)[i]? = some x := hx
      have dx := dig_some hx
      have hxl := x.isLt
      have ht := val_take_lt (digs z.natAbs) i
      have hts := val_take_succ (digs z.natAbs) i
      rw [dx] at hts
      have key : ∀ n : Int, n = 32 * i → 0 ≤ n ∧ n < 64 ∧ 0 ≤ (x.val : Int) * 2 ^ n.toNat ∧ (x.val : Int) * 2 ^ n.toNat ≤ 18446744073709551615 ∧
          bitsK .or .u64 (val ((digs z.natAbs).take i)) ((x.val : Int) * 2 ^ n.toNat) = val ((digs z.natAbs).take (i + 1)) := fun n hn => by
        have : i = 0 ∨ i = 1 := by omega
        rcases this with rfl | rfl
        · have : n = 0 := by omega
          subst this
          rw [hts]
          have e := or_nat (x := 0) (y := x.val) (by omega) (by omega)
          have p : (x.val : Int) * 2 ^ (0 : Int).toNat = (x.val : Int) := by simp
          rw [p, val_take_zero]
          refine ⟨by omega, by omega, by omega, by omega, ?_⟩
          rw [e]; simp
        · have : n = 32 := by omega
          subst this
          rw [hts]
          have e := or_nat (x := val ((digs z.natAbs).take 1)) (y := 4294967296 * x.val) (by omega) (by omega)
          have e2 := Nat.two_pow_add_eq_or_of_lt (i := 32) (b := val ((digs z.natAbs).take 1)) (by rw [show 2 ^ 32 = 4294967296 by decide]; omega) x.val
          rw [show 2 ^ 32 = 4294967296 by decide] at e2
          have e3 : (x.val : Int) * 2 ^ (32 : Int).toNat = ((4294967296 * x.val : Nat) : Int) := by
            rw [show (32 : Int).toNat = 32 by decide]; simp only [Int.reducePow]; omega
          rw [e3]
          refine ⟨by omega, by omega, by omega, by omega, ?_⟩
          rw [e, Nat.or_comm, ← e2]
          omega
      obtain ⟨k1, k2, k3, k4, k5⟩ := key (32 * i) rfl
      refine Ar.fit (by omega) ?_
      refine Ar.fit (by omega) ?_
      refine Ar.fit (by omega) ?_
      refine Ob.mk ⟨k1, k2⟩ ?_
      refine Ar.fit ⟨k3, k4⟩ ?_
      refine ⟨_, k5.symm, ?_⟩
      refine Ar.fit (by omega) ?_
      exact ⟨i + 1, ⟨by omega, by omega⟩, sub_of [(0, some 0), (1, some 1)] rfl rfl rfl ⟨rfl, rfl, rfl, trivial⟩ ⟨rfl, rfl, trivial⟩, by dsimp only; omega⟩
  · have h4 : (digs z.natAbs).length = i := by rw [ofZ_mag] at h3; omega
    have e : val ((digs z.natAbs).take i) = z.natAbs := by rw [val_take_all (by omega), val_digs]
    have hz : z.natAbs < 18446744073709551616 := by
      have := val_take_lt (digs z.natAbs) i
      rw [e] at this
      refine Nat.lt_of_lt_of_le this (Nat.le_trans (Nat.pow_le_pow_right (by decide) h1) (by decide))
    have good : ∀ n : Int, n = z → -9223372036854775808 ≤ z ∧ z ≤ 9223372036854775807 → LE (.tup [i64 n, bl true]) (.tup [i64 (fitI z), pr (-9223372036854775808 ≤ z ∧ z ≤ 9223372036854775807)]) := fun n hn h =>
      LE_tup2 (LE_int (by rw [fitI, if_pos h, hn])) (LE_true h)
    have hn := ofZ_neg z
    refine Br.mk (fun g1 => ?_) (fun g1 => ?_)
    · rw [hn] at g1
      refine Br.mk (fun g2 => ?_) (fun g2 => ?_)
      · refine Ar.wrap ?_
        refine Ar.wrap ?_
        refine good _ ?_ (by omega)
        rw [e, wrap64]
        show IntKind.i64.wrap _ = _
        simp only [IntKind.wrap, IntKind.bits, IntKind.signed]
        simp
        omega
      · refine Br.mk (fun g3 => absurd (hn.2 g1) g3) (fun _ => bad (by omega))
    · refine Br.mk (fun g3 => ?_) (fun g3 => absurd (fun h => g1 h) g3)
      rw [hn] at g1
      refine Br.mk (fun g2 => ?_) (fun g2 => bad (by omega))
      refine Ar.fit (by omega) ?_
      exact good _ (by omega) (by omega)

end Go.Gs
