/- Rows of digits of base 2^32, least significant digit first, and the natural numbers that they stand for. -/
namespace Go.Gs

abbrev Dig := Fin 4294967296

/-- What a row of digits stands for. -/
def val : List Dig → Nat
  | [] => 0
  | d :: r => d.val + 4294967296 * val r

/-- The digits of a number, the most significant of which is not zero. -/
def digs (n : Nat) : List Dig :=
  if h : n = 0 then [] else ⟨n % 4294967296, Nat.mod_lt _ (by decide)⟩ :: digs (n / 4294967296)
termination_by n
decreasing_by exact Nat.div_lt_self (Nat.pos_of_ne_zero h) (by decide)

/-- Digit 'i', or 0 beyond the end. -/
def dig (xs : List Dig) (i : Nat) : Nat := match xs[i]? with
  | some d => d.val
  | none => 0

abbrev BB : Nat := 4294967296

theorem pow_pos' (i : Nat) : 0 < 4294967296 ^ i := Nat.pow_pos (by decide)

theorem dig_lt (xs : List Dig) (i : Nat) : dig xs i < 4294967296 := by
  unfold dig; split
  · exact Fin.isLt _
  · decide
theorem dig_some {xs : List Dig} {i : Nat} {d : Dig} (h : xs[i]? = some d) : dig xs i = d.val := by simp [dig, h]
theorem dig_out {xs : List Dig} {i : Nat} (h : xs.length ≤ i) : dig xs i = 0 := by simp [dig, h]
theorem dig_cons_zero (d : Dig) (r : List Dig) : dig (d :: r) 0 = d.val := rfl
theorem dig_cons_succ (d : Dig) (r : List Dig) (i : Nat) : dig (d :: r) (i + 1) = dig r i := by simp [dig]
theorem dig_nil (i : Nat) : dig [] i = 0 := rfl
theorem dig_drop (xs : List Dig) (k i : Nat) : dig (xs.drop k) i = dig xs (k + i) := by simp [dig]
theorem dig_take (xs : List Dig) (k i : Nat) : dig (xs.take k) i = if i < k then dig xs i else 0 := by
  by_cases h : i < k <;> simp [dig, List.getElem?_take, h]
theorem dig_set (xs : List Dig) (i j : Nat) (d : Dig) : dig (xs.set i d) j = if i = j ∧ i < xs.length then d.val else dig xs j := by
  simp only [dig, List.getElem?_set]
  by_cases h : i = j
  · subst h
    by_cases h2 : i < xs.length
    · simp [h2]
    · simp [h2]; 
  · simp [h]
theorem dig_append (xs ys : List Dig) (i : Nat) : dig (xs ++ ys) i = if i < xs.length then dig xs i else dig ys (i - xs.length) := by
  by_cases h : i < xs.length <;> simp [dig, List.getElem?_append, h]
theorem dig_replicate (n i : Nat) : dig (List.replicate n (0 : Dig)) i = 0 := by
  simp only [dig, List.getElem?_replicate]; by_cases h : i < n <;> simp [h]

theorem val_nil : val [] = 0 := rfl
theorem val_cons (d : Dig) (r : List Dig) : val (d :: r) = d.val + 4294967296 * val r := rfl
theorem val_append : ∀ xs ys : List Dig, val (xs ++ ys) = val xs + 4294967296 ^ xs.length * val ys
  | [], ys => by simp [val]
  | x :: xs, ys => by
    simp only [List.cons_append, val, val_append xs ys, List.length_cons, Nat.pow_succ]
    grind
theorem val_lt : ∀ xs : List Dig, val xs < 4294967296 ^ xs.length
  | [] => by simp [val]
  | x :: xs => by
    have h := val_lt xs
    have := x.isLt
    simp only [val, List.length_cons, Nat.pow_succ]
    omega
theorem val_split (xs : List Dig) (i : Nat) : val xs = val (xs.take i) + 4294967296 ^ i * val (xs.drop i) := by
  by_cases h : i ≤ xs.length
  · have := val_append (xs.take i) (xs.drop i)
    rw [List.take_append_drop, List.length_take, Nat.min_eq_left h] at this
    exact this
  · rw [List.take_of_length_le (by omega), List.drop_eq_nil_of_le (by omega)]; simp [val]
theorem val_take_lt (xs : List Dig) (i : Nat) : val (xs.take i) < 4294967296 ^ i := by
  have h := val_lt (xs.take i)
  have : (xs.take i).length ≤ i := by simp; omega
  exact Nat.lt_of_lt_of_le h (Nat.pow_le_pow_right (by decide) this)
theorem val_drop_cons (xs : List Dig) (i : Nat) : val (xs.drop i) = dig xs i + 4294967296 * val (xs.drop (i + 1)) := by
  by_cases h : i < xs.length
  · rw [List.drop_eq_getElem_cons h, val_cons, dig_some (List.getElem?_eq_getElem h)]
  · rw [List.drop_eq_nil_of_le (by omega), List.drop_eq_nil_of_le (by omega), dig_out (by omega)]; rfl
theorem val_take_succ (xs : List Dig) (i : Nat) : val (xs.take (i + 1)) = val (xs.take i) + 4294967296 ^ i * dig xs i := by
  have h1 := val_split xs i
  have h2 := val_split xs (i + 1)
  have h3 := val_drop_cons xs i
  rw [Nat.pow_succ] at h2
  rw [h3] at h1
  generalize 4294967296 ^ i = q at *
  generalize val (xs.take (i + 1)) = a at *
  generalize val (xs.take i) = b at *
  generalize val (xs.drop (i + 1)) = c at *
  have : q * (dig xs i + 4294967296 * c) = q * dig xs i + q * 4294967296 * c := by rw [Nat.mul_add, Nat.mul_assoc]
  omega
theorem val_take_all {xs : List Dig} {i : Nat} (h : xs.length ≤ i) : val (xs.take i) = val xs := by rw [List.take_of_length_le h]
theorem val_take_zero (xs : List Dig) : val (xs.take 0) = 0 := rfl
theorem val_drop_out {xs : List Dig} {i : Nat} (h : xs.length ≤ i) : val (xs.drop i) = 0 := by rw [List.drop_eq_nil_of_le h]; rfl
theorem val_set : ∀ (xs : List Dig) (i : Nat) (d : Dig), i < xs.length → val (xs.set i d) + 4294967296 ^ i * dig xs i = val xs + 4294967296 ^ i * d.val
  | [], i, d, h => by simp at h
  | x :: xs, 0, d, _ => by simp only [List.set_cons_zero, val, dig_cons_zero]; omega
  | x :: xs, i + 1, d, h => by
    have ih := val_set xs i d (by simpa using h)
    simp only [List.set_cons_succ, val, dig_cons_succ, Nat.pow_succ]
    grind
theorem val_snoc (xs : List Dig) (d : Dig) : val (xs ++ [d]) = val xs + 4294967296 ^ xs.length * d.val := by
  rw [val_append]; simp [val]
theorem val_zeros (n : Nat) : val (List.replicate n (0 : Dig)) = 0 := by
  induction n with
  | zero => rfl
  | succ n ih => rw [List.replicate_succ, val_cons, ih]; rfl

theorem digs_zero : digs 0 = [] := by unfold digs; rfl
theorem digs_pos {n : Nat} (h : n ≠ 0) : digs n = ⟨n % 4294967296, Nat.mod_lt _ (by decide)⟩ :: digs (n / 4294967296) := by
  rw [digs]; simp [h]
theorem val_digs (n : Nat) : val (digs n) = n := by
  induction n using Nat.strongRecOn with
  | _ n ih =>
    by_cases h : n = 0
    · subst h; rw [digs_zero]; rfl
    · rw [digs_pos h, val_cons, ih _ (Nat.div_lt_self (Nat.pos_of_ne_zero h) (by decide))]
      show n % 4294967296 + _ = n
      omega

/-- A row whose last digit is not zero. -/
def Normd (xs : List Dig) : Prop := xs = [] ∨ dig xs (xs.length - 1) ≠ 0

theorem normd_val_pos : ∀ {xs : List Dig}, Normd xs → xs ≠ [] → val xs ≠ 0
  | [], _, h => absurd rfl h
  | [x], h, _ => by
    rcases h with h | h
    · cases h
    · have : dig [x] ([x].length - 1) = x.val := rfl
      simp only [val]; omega
  | x :: y :: r, h, _ => by
    have h' : Normd (y :: r) := by
      rcases h with h | h
      · cases h
      · right
        simp only [List.length_cons, Nat.add_sub_cancel] at h ⊢
        rw [dig_cons_succ] at h
        exact h
    have := normd_val_pos h' (by simp)
    rw [val_cons]; omega
theorem digs_val : ∀ {xs : List Dig}, Normd xs → digs (val xs) = xs
  | [], _ => digs_zero
  | x :: r, h => by
    have hp := normd_val_pos h (by simp)
    have h' : Normd r := by
      rcases h with h | h
      · cases h
      · cases r with
        | nil => exact .inl rfl
        | cons y r =>
          right
          simp only [List.length_cons, Nat.add_sub_cancel] at h ⊢
          rw [dig_cons_succ] at h
          exact h
    have hx := x.isLt
    rw [digs_pos hp]
    have e1 : val (x :: r) % 4294967296 = x.val := by rw [val_cons]; omega
    have e2 : val (x :: r) / 4294967296 = val r := by rw [val_cons]; omega
    rw [e2, digs_val h']
    congr 1
    exact Fin.ext e1
theorem normd_digs (n : Nat) : Normd (digs n) := by
  induction n using Nat.strongRecOn with
  | _ n ih =>
    by_cases h : n = 0
    · subst h; rw [digs_zero]; exact .inl rfl
    · have ih := ih _ (Nat.div_lt_self (Nat.pos_of_ne_zero h) (show 1 < 4294967296 by decide))
      right
      rw [digs_pos h]
      rcases ih with ih | ih
      · have e := val_digs (n / 4294967296)
        rw [ih] at e ⊢
        simp only [val] at e
        show n % 4294967296 ≠ 0
        omega
      · by_cases he : digs (n / 4294967296) = []
        · rw [he] at ih; exact absurd (by rfl) ih
        · obtain ⟨y, r, he⟩ := List.exists_cons_of_ne_nil he
          rw [he] at ih ⊢
          simp only [List.length_cons, Nat.add_sub_cancel] at ih ⊢
          rw [dig_cons_succ]; exact ih
/-- Rows without zeros at the end are the same if they stand for the same number. -/
theorem normd_take {xs : List Dig} {n : Nat} (h : n = 0 ∨ dig xs (n - 1) ≠ 0) (hn : n ≤ xs.length) (hz : ∀ i, n ≤ i → dig xs i = 0) : xs.take n = digs (val xs) := by
  have e : val xs = val (xs.take n) := by
    rw [val_split xs n]
    have : val (xs.drop n) = 0 := by
      have key : ∀ k, val (xs.drop (n + k)) = 0 ∨ k ≤ xs.length := fun k => by
        by_cases hk : k ≤ xs.length
        · exact .inr hk
        · exact .inl (val_drop_out (by omega))
      have down : ∀ j, val (xs.drop (n + (xs.length - j))) = 0 := by
        intro j
        induction j with
        | zero => exact val_drop_out (by omega)
        | succ j ih =>
          by_cases hj : j < xs.length
          · rw [val_drop_cons, hz _ (by omega), show n + (xs.length - (j + 1)) + 1 = n + (xs.length - j) by omega, ih]
          · rw [show n + (xs.length - (j + 1)) = n + (xs.length - j) by omega]; exact ih
      have := down xs.length
      simpa using this
    rw [this]; simp
  rw [e, digs_val]
  by_cases hn0 : n = 0
  · subst hn0; exact .inl rfl
  · right
    rw [List.length_take, Nat.min_eq_left hn, dig_take, if_pos (by omega)]
    exact h.resolve_left hn0

theorem digs_len {n k : Nat} (h : n < 4294967296 ^ k) : (digs n).length ≤ k := by
  induction k generalizing n with
  | zero => have : n = 0 := by simpa using h
            subst this; rw [digs_zero]; simp
  | succ k ih =>
    by_cases h0 : n = 0
    · subst h0; rw [digs_zero]; simp
    · rw [digs_pos h0, List.length_cons]
      have : n / 4294967296 < 4294967296 ^ k := by
        rw [Nat.div_lt_iff_lt_mul (by decide)]; rwa [Nat.pow_succ] at h
      have := ih this
      omega
theorem digs_lt {n k : Nat} (h : (digs n).length ≤ k) : n < 4294967296 ^ k := by
  have := val_lt (digs n)
  rw [val_digs] at this
  exact Nat.lt_of_lt_of_le this (Nat.pow_le_pow_right (by decide) h)
theorem digs_val_len (xs : List Dig) : (digs (val xs)).length ≤ xs.length := digs_len (val_lt xs)
theorem digs_nil {n : Nat} : digs n = [] ↔ n = 0 := by
  constructor
  · intro h; have := val_digs n; rw [h] at this; exact this.symm
  · rintro rfl; exact digs_zero
theorem digs_len_pos {n : Nat} : 0 < (digs n).length ↔ n ≠ 0 := by
  rw [List.length_pos_iff, Ne, digs_nil]
theorem digs_ge {n : Nat} (h : n ≠ 0) : 4294967296 ^ ((digs n).length - 1) ≤ n := by
  rcases Nat.lt_or_ge n (4294967296 ^ ((digs n).length - 1)) with h1 | h1
  · have := digs_len h1
    have := digs_len_pos.2 h
    omega
  · exact h1
theorem digs_mono {m n : Nat} (h : m ≤ n) : (digs m).length ≤ (digs n).length := digs_len (Nat.lt_of_le_of_lt h (digs_lt (Nat.le_refl _)))
/-- Digits that are all the same. -/
theorem val_drop_congr {xs ys : List Dig} {k : Nat} (h : ∀ i, k ≤ i → dig xs i = dig ys i) : val (xs.drop k) = val (ys.drop k) := by
  have down : ∀ j, ∀ k', k ≤ k' → max xs.length ys.length ≤ k' + j → val (xs.drop k') = val (ys.drop k') := by
    intro j
    induction j with
    | zero => intro k' _ hk; rw [val_drop_out (by omega), val_drop_out (by omega)]
    | succ j ih =>
      intro k' hk hj
      rw [val_drop_cons, val_drop_cons ys, h k' hk, ih (k' + 1) (by omega) (by omega)]
  exact down (max xs.length ys.length) k (Nat.le_refl _) (by omega)
theorem val_congr {xs ys : List Dig} (h : ∀ i, dig xs i = dig ys i) : val xs = val ys := by
  have := val_drop_congr (k := 0) (xs := xs) (ys := ys) (fun i _ => h i)
  simpa using this
theorem dig_val (xs : List Dig) (i : Nat) : dig xs i = val xs / 4294967296 ^ i % 4294967296 := by
  have h1 := val_split xs i
  have h2 := val_take_lt xs i
  have h3 := val_drop_cons xs i
  have h4 := dig_lt xs i
  have e : val xs / 4294967296 ^ i = val (xs.drop i) := by
    rw [h1, Nat.add_comm, Nat.mul_add_div (pow_pos' i), Nat.div_eq_of_lt h2, Nat.add_zero]
  rw [e, h3]; omega
theorem val_drop (xs : List Dig) (i : Nat) : val (xs.drop i) = val xs / 4294967296 ^ i := by
  have h1 := val_split xs i
  have h2 := val_take_lt xs i
  rw [h1, Nat.add_comm, Nat.mul_add_div (pow_pos' i), Nat.div_eq_of_lt h2, Nat.add_zero]
theorem val_take (xs : List Dig) (i : Nat) : val (xs.take i) = val xs % 4294967296 ^ i := by
  have h1 := val_split xs i
  have h2 := val_take_lt xs i
  rw [h1, Nat.add_mul_mod_self_left, Nat.mod_eq_of_lt h2]

/-- A digit out of a number. -/
def dof (n : Nat) : Dig := ⟨n % 4294967296, Nat.mod_lt _ (by decide)⟩
theorem dof_val (n : Nat) : (dof n).val = n % 4294967296 := rfl

/-- How many binary digits. -/
def nbits (n : Nat) : Nat := if n = 0 then 0 else n.log2 + 1
theorem nbits_lt (n : Nat) : n < 2 ^ nbits n := by
  unfold nbits; split
  · subst_vars; decide
  · exact Nat.lt_log2_self
theorem nbits_ge {n : Nat} (h : n ≠ 0) : 2 ^ (nbits n - 1) ≤ n := by
  unfold nbits; rw [if_neg h]; exact Nat.log2_self_le h
theorem nbits_unique {n k : Nat} (h1 : n < 2 ^ k) (h2 : n ≠ 0) (h3 : 2 ^ (k - 1) ≤ n) : nbits n = k := by
  have a := nbits_lt n
  have b := nbits_ge h2
  have c : 2 ^ (nbits n - 1) < 2 ^ k := Nat.lt_of_le_of_lt b h1
  have d : 2 ^ (k - 1) < 2 ^ nbits n := Nat.lt_of_le_of_lt h3 a
  have c := (Nat.pow_lt_pow_iff_right (by decide : 1 < 2)).1 c
  have d := (Nat.pow_lt_pow_iff_right (by decide : 1 < 2)).1 d
  have : 0 < nbits n := by unfold nbits; rw [if_neg h2]; omega
  have : k ≠ 0 := by rintro rfl; simp at h1; exact h2 h1
  omega
theorem nbits_zero : nbits 0 = 0 := rfl
theorem nbits_pos {n : Nat} : 0 < nbits n ↔ n ≠ 0 := by
  unfold nbits; split <;> omega
theorem pow32 (k : Nat) : 4294967296 ^ k = 2 ^ (32 * k) := by rw [show 4294967296 = 2 ^ 32 by decide, ← Nat.pow_mul]

theorem log2_half {n : Nat} (h : 2 ≤ n) : n.log2 = (n / 2).log2 + 1 := by rw [Nat.log2_def, if_pos h]
theorem nbits_half {n : Nat} (h : n ≠ 0) : nbits n = nbits (n / 2) + 1 := by
  unfold nbits
  rw [if_neg h]
  by_cases h1 : n / 2 = 0
  · rw [if_pos h1]
    have : n = 1 := by omega
    subst this; rfl
  · rw [if_neg h1, log2_half (by omega)]
theorem nbits_top {xs : List Dig} (hn : dig xs (xs.length - 1) ≠ 0) : nbits (val xs) = 32 * (xs.length - 1) + nbits (dig xs (xs.length - 1)) := by
  have hl : 0 < xs.length := by
    rcases Nat.eq_zero_or_pos xs.length with h | h
    · rw [List.length_eq_zero_iff.1 h] at hn; exact absurd rfl hn
    · exact h
  have e1 := val_split xs (xs.length - 1)
  have e2 := val_take_lt xs (xs.length - 1)
  have e3 := val_drop_cons xs (xs.length - 1)
  rw [show xs.length - 1 + 1 = xs.length by omega, val_drop_out (Nat.le_refl _), Nat.mul_zero, Nat.add_zero] at e3
  rw [e3] at e1
  generalize dig xs (xs.length - 1) = t at *
  have p1 := nbits_lt t
  have p2 := nbits_ge hn
  rw [pow32] at e1 e2
  have p0 : 0 < 2 ^ (32 * (xs.length - 1)) := Nat.pow_pos (by decide)
  have np : 0 < nbits t := nbits_pos.2 hn
  refine nbits_unique ?_ ?_ ?_
  · rw [Nat.pow_add]
    have : 2 ^ (32 * (xs.length - 1)) * (t + 1) ≤ 2 ^ (32 * (xs.length - 1)) * 2 ^ nbits t := Nat.mul_le_mul_left _ p1
    rw [Nat.mul_add, Nat.mul_one] at this
    omega
  · have : 2 ^ (32 * (xs.length - 1)) * 1 ≤ 2 ^ (32 * (xs.length - 1)) * t := Nat.mul_le_mul_left _ (by omega)
    omega
  · rw [show 32 * (xs.length - 1) + nbits t - 1 = 32 * (xs.length - 1) + (nbits t - 1) by omega, Nat.pow_add]
    have : 2 ^ (32 * (xs.length - 1)) * 2 ^ (nbits t - 1) ≤ 2 ^ (32 * (xs.length - 1)) * t := Nat.mul_le_mul_left _ p2
    omega
theorem val_of_digs {xs : List Dig} {N : Nat} (h : ∀ j, j < xs.length → dig xs j = N / 4294967296 ^ j % 4294967296) : val xs = N % 4294967296 ^ xs.length := by
  have key : ∀ i, i ≤ xs.length → val (xs.take i) = N % 4294967296 ^ i := by
    intro i
    induction i with
    | zero => intro _; rw [Nat.pow_zero, Nat.mod_one]; rfl
    | succ i ih =>
      intro hi
      rw [val_take_succ, ih (by omega), h i (by omega), Nat.pow_succ, Nat.mod_mul]
  have := key xs.length (Nat.le_refl _)
  rwa [List.take_length] at this
/-- The digits of a number that is shifted right. -/
theorem shr_dig (xs : List Dig) (w s j : Nat) (hs : s < 32) : val xs / 2 ^ (32 * w + s) / 4294967296 ^ j % 4294967296 = (dig xs (w + j + 1) * 4294967296 + dig xs (w + j)) / 2 ^ s % 4294967296 := by
  have e : val xs / 2 ^ (32 * w + s) / 4294967296 ^ j = val (xs.drop (w + j)) / 2 ^ s := by
    rw [val_drop, Nat.div_div_eq_div_mul, Nat.div_div_eq_div_mul]
    congr 1
    rw [pow32, pow32, ← Nat.pow_add, ← Nat.pow_add]
    congr 1; omega
  rw [e, val_drop_cons, val_drop_cons]
  generalize val (xs.drop (w + j + 1 + 1)) = R
  generalize dig xs (w + j + 1) = x
  generalize dig xs (w + j) = y
  have hp : 2 ^ s * 2 ^ (32 - s) = 4294967296 := by rw [← Nat.pow_add, show s + (32 - s) = 32 by omega]
  have : y + 4294967296 * (x + 4294967296 * R) = (x * 4294967296 + y) + 2 ^ s * (2 ^ (32 - s) * 4294967296 * R) := by
    rw [show 2 ^ s * (2 ^ (32 - s) * 4294967296 * R) = (2 ^ s * 2 ^ (32 - s)) * 4294967296 * R by simp only [Nat.mul_assoc], hp]
    omega
  rw [this, Nat.add_mul_div_left _ _ (Nat.pow_pos (by decide))]
  rw [show 2 ^ (32 - s) * 4294967296 * R = 4294967296 * (2 ^ (32 - s) * R) by rw [Nat.mul_comm (2 ^ (32 - s)), Nat.mul_assoc], Nat.add_mul_mod_self_left]

end Go.Gs
/- Integers as a sign and a row of digits. -/
namespace Go.Gs

structure BI where
  neg : Bool
  mag : List Dig
  deriving DecidableEq
/-- What it stands for. -/
def BI.v (a : BI) : Int := if a.neg then -(val a.mag : Int) else val a.mag
/-- The integer, normalized. -/
def ofZ (z : Int) : BI := ⟨decide (z < 0), digs z.natAbs⟩
theorem ofZ_v (z : Int) : (ofZ z).v = z := by
  unfold BI.v ofZ
  simp only [val_digs, decide_eq_true_eq]
  split <;> omega
theorem BI.v_abs (a : BI) : a.v.natAbs = val a.mag := by unfold BI.v; split <;> omega
theorem BI.v_eq (a : BI) : (a.neg = true ∧ a.v = -(val a.mag : Int)) ∨ (a.neg = false ∧ a.v = (val a.mag : Int)) := by
  unfold BI.v; cases a.neg <;> simp
theorem ofZ_neg (z : Int) : (ofZ z).neg = true ↔ z < 0 := by simp [ofZ]
theorem ofZ_mag (z : Int) : (ofZ z).mag = digs z.natAbs := rfl
/-- How many digits. -/
def zlen (z : Int) : Nat := (digs z.natAbs).length
theorem zlen_le {z : Int} {k : Nat} (h : z.natAbs < 4294967296 ^ k) : zlen z ≤ k := digs_len h
theorem zlen_lt {z : Int} {k : Nat} (h : zlen z ≤ k) : z.natAbs < 4294967296 ^ k := digs_lt h
theorem zlen_neg (z : Int) : zlen (-z) = zlen z := by simp [zlen]
theorem zlen_mul (x y : Int) : zlen (x * y) ≤ zlen x + zlen y := by
  refine zlen_le ?_
  rw [Int.natAbs_mul, Nat.pow_add]
  exact Nat.mul_lt_mul_of_lt_of_lt (zlen_lt (Nat.le_refl _)) (zlen_lt (Nat.le_refl _))
theorem zlen_add (x y : Int) : zlen (x + y) ≤ max (zlen x) (zlen y) + 1 := by
  refine zlen_le ?_
  have h1 := zlen_lt (Nat.le_max_left (zlen x) (zlen y))
  have h2 := zlen_lt (Nat.le_max_right (zlen x) (zlen y))
  rw [Nat.pow_succ]
  have := Int.natAbs_add_le x y
  omega
theorem zlen_sub (x y : Int) : zlen (x - y) ≤ max (zlen x) (zlen y) + 1 := by
  have := zlen_add x (-y)
  rwa [zlen_neg, ← Int.sub_eq_add_neg] at this
theorem zlen_v (a : BI) : zlen a.v ≤ a.mag.length := by
  unfold zlen; rw [BI.v_abs]; exact digs_val_len _
theorem zlen_mono {x y : Int} (h : x.natAbs ≤ y.natAbs) : zlen x ≤ zlen y := digs_mono h
theorem zlen_i64 {n : Int} (h : -9223372036854775808 ≤ n ∧ n ≤ 9223372036854775807) : zlen n ≤ 2 := zlen_le (by
  rw [show 4294967296 ^ 2 = 18446744073709551616 by decide]; omega)

/-- The quotient, rounded to the nearest, halves away from zero. -/
def rdiv (a b : Int) : Int :=
  if a < 0 ↔ b < 0 then ((2 * a.natAbs + b.natAbs) / (2 * b.natAbs) : Nat) else -((2 * a.natAbs + b.natAbs) / (2 * b.natAbs) : Nat)
theorem rdiv_abs (a b : Int) : (rdiv a b).natAbs = (2 * a.natAbs + b.natAbs) / (2 * b.natAbs) := by
  unfold rdiv
  generalize (2 * a.natAbs + b.natAbs) / (2 * b.natAbs) = q
  split <;> omega

end Go.Gs
/- Knuth's estimate of a quotient's digit. -/
namespace Go.Gs

/-- The last two digits of a row and the rest. -/
theorem val_two_top (xs : List Dig) (n : Nat) (h : xs.length = n + 2) : ∃ r, r < 4294967296 ^ n ∧ val xs = (dig xs (n + 1) * 4294967296 + dig xs n) * 4294967296 ^ n + r := by
  refine ⟨val (xs.take n), val_take_lt xs n, ?_⟩
  have e1 := val_split xs n
  have e2 := val_drop_cons xs n
  have e3 := val_drop_cons xs (n + 1)
  rw [val_drop_out (show xs.length ≤ n + 1 + 1 by omega), Nat.mul_zero, Nat.add_zero] at e3
  rw [e3] at e2
  rw [e1, e2]
  generalize dig xs (n + 1) = a
  generalize dig xs n = b
  generalize 4294967296 ^ n = p
  grind

/-- What an estimate of the quotient's digit satisfies: it is exact or one too large. -/
theorem guess_ok {P v1 v2 rv top u2 ru q r : Nat} (hrv : rv < P) (hru : ru < P) (hv1 : 2147483648 ≤ v1) (hv2 : v2 < 4294967296) (e : q * v1 + r = top) (hq : q ≤ 4294967296)
    (hle : q * v2 ≤ r * 4294967296 + u2) (hQ : ((top * 4294967296 + u2) * P + ru) / ((v1 * 4294967296 + v2) * P + rv) ≤ q) :
    q = ((top * 4294967296 + u2) * P + ru) / ((v1 * 4294967296 + v2) * P + rv) ∨ q = ((top * 4294967296 + u2) * P + ru) / ((v1 * 4294967296 + v2) * P + rv) + 1 := by
  have hP : 0 < P := by omega
  have hV : 0 < (v1 * 4294967296 + v2) * P + rv := by
    have : 0 < (v1 * 4294967296 + v2) * P := Nat.mul_pos (by omega) hP
    omega
  have key : (q - 1) * ((v1 * 4294967296 + v2) * P + rv) ≤ (top * 4294967296 + u2) * P + ru := by
    rcases Nat.eq_zero_or_pos q with h0 | h0
    · subst h0; simp
    · obtain ⟨p, rfl⟩ : ∃ p, q = p + 1 := ⟨q - 1, by omega⟩
      rw [Nat.add_sub_cancel]
      have h1 : p * ((v1 * 4294967296 + v2) * P + rv) ≤ p * ((v1 * 4294967296 + v2 + 1) * P) := by
        refine Nat.mul_le_mul_left _ ?_
        rw [Nat.add_mul _ 1 P]; omega
      have h2 : p * (v1 * 4294967296 + v2 + 1) ≤ top * 4294967296 + u2 := by
        have a1 : (p + 1) * v1 = p * v1 + v1 := by rw [Nat.add_mul]; omega
        have a2 : (p + 1) * v2 = p * v2 + v2 := by rw [Nat.add_mul]; omega
        have a3 : p * (v1 * 4294967296 + v2 + 1) = (p * v1) * 4294967296 + p * v2 + p := by
          rw [Nat.mul_add, Nat.mul_add, Nat.mul_assoc]; omega
        rw [a1] at e
        rw [a2] at hle
        rw [a3]
        omega
      have h3 : p * ((v1 * 4294967296 + v2 + 1) * P) ≤ (top * 4294967296 + u2) * P := by
        rw [← Nat.mul_assoc]; exact Nat.mul_le_mul_right _ h2
      omega
  have := (Nat.le_div_iff_mul_le hV).2 key
  omega

/-- A guess that is still too large. -/
theorem guess_big {P v1 v2 rv top u2 ru q r : Nat} (hru : ru < P) (e : q * v1 + r = top) (hgt : r * 4294967296 + u2 < q * v2) :
    ((top * 4294967296 + u2) * P + ru) / ((v1 * 4294967296 + v2) * P + rv) < q := by
  have hP : 0 < P := by omega
  have hq : 0 < q := by
    rcases Nat.eq_zero_or_pos q with h | h
    · subst h; omega
    · exact h
  have h1 : top * 4294967296 + u2 + 1 ≤ q * (v1 * 4294967296 + v2) := by
    have a3 : q * (v1 * 4294967296 + v2) = (q * v1) * 4294967296 + q * v2 := by rw [Nat.mul_add, Nat.mul_assoc]
    rw [a3]; omega
  have h2 : (top * 4294967296 + u2) * P + ru < q * ((v1 * 4294967296 + v2) * P + rv) := by
    have a1 : (top * 4294967296 + u2 + 1) * P ≤ q * (v1 * 4294967296 + v2) * P := Nat.mul_le_mul_right _ h1
    have a2 : q * (v1 * 4294967296 + v2) * P ≤ q * ((v1 * 4294967296 + v2) * P + rv) := by
      rw [Nat.mul_assoc]; exact Nat.mul_le_mul_left _ (Nat.le_add_right _ _)
    rw [Nat.add_mul _ 1 P] at a1
    omega
  have hV : 0 < (v1 * 4294967296 + v2) * P + rv := by
    rcases Nat.eq_zero_or_pos ((v1 * 4294967296 + v2) * P + rv) with h | h
    · rw [h] at h2; omega
    · exact h
  exact (Nat.div_lt_iff_lt_mul hV).2 h2

/-- The digits that are taken off, one by one. -/
theorem take_step {p q c b ui y lo c' ui' b' U V R : Nat} (h : R + q * V = U + p * (c + b)) (hl : lo + 4294967296 * c' = c + q * y) (hu : ui' + lo + b = ui + 4294967296 * b') :
    R + p * ui' + q * (V + p * y) = U + p * ui + p * 4294967296 * (c' + b') := by
  have e1 : ui' + (c + q * y) + b = ui + 4294967296 * (c' + b') := by omega
  have e2 : p * (ui' + (c + q * y) + b) = p * (ui + 4294967296 * (c' + b')) := by rw [e1]
  grind

end Go.Gs
/- Rationals as two integers. -/
namespace Go.Gs

structure BR where
  num : BI
  den : BI
  deriving DecidableEq
/-- What it stands for (nothing over zero is zero). -/
def BR.v (a : BR) : Rat := Rat.divInt a.num.v a.den.v
/-- The number in lowest terms. -/
def ofQ (q : Rat) : BR := ⟨ofZ q.num, ofZ q.den⟩
theorem ofQ_v (q : Rat) : (ofQ q).v = q := by unfold BR.v ofQ; rw [ofZ_v, ofZ_v, Rat.num_divInt_den]
def BR.len (a : BR) : Nat := max a.num.mag.length a.den.mag.length
def qlen (q : Rat) : Nat := max (zlen q.num) (zlen q.den)
theorem ofQ_len (q : Rat) : (ofQ q).len = qlen q := rfl

theorem divInt_num {n d : Int} (hd : d ≠ 0) : (if n.sign * d.sign < 0 then -((n.natAbs / Nat.gcd n.natAbs d.natAbs : Nat) : Int) else ((n.natAbs / Nat.gcd n.natAbs d.natAbs : Nat) : Int)) = (Rat.divInt n d).num := by
  have hg0 : 0 < Nat.gcd n.natAbs d.natAbs := Nat.gcd_pos_of_pos_right _ (by omega)
  rw [Rat.num_divInt, show d.gcd n = Nat.gcd n.natAbs d.natAbs from Nat.gcd_comm _ _]
  obtain ⟨k, hk⟩ : ((Nat.gcd n.natAbs d.natAbs : Nat) : Int) ∣ n := Int.ofNat_dvd_left.2 (Nat.gcd_dvd_left _ _)
  generalize Nat.gcd n.natAbs d.natAbs = g at *
  have e1 : n.natAbs / g = k.natAbs := by rw [hk, Int.natAbs_mul, Int.natAbs_natCast, Nat.mul_div_cancel_left _ hg0]
  have e2 : d.sign * n / (g : Int) = d.sign * k := by
    rw [hk, ← Int.mul_assoc, Int.mul_comm d.sign, Int.mul_assoc, Int.mul_ediv_cancel_left _ (by omega)]
  have e3 : n.sign = k.sign := by rw [hk, Int.sign_mul, Int.sign_eq_one_of_pos (by omega), Int.one_mul]
  rw [e1, e2, e3]
  rcases Int.lt_trichotomy d 0 with h | h | h
  · rw [Int.sign_eq_neg_one_of_neg h]
    rcases Int.lt_trichotomy k 0 with h' | h' | h'
    · rw [Int.sign_eq_neg_one_of_neg h', if_neg (by decide)]; omega
    · subst h'; rw [if_neg (by decide)]; rfl
    · rw [Int.sign_eq_one_of_pos h', if_pos (by decide)]; omega
  · exact absurd h hd
  · rw [Int.sign_eq_one_of_pos h]
    rcases Int.lt_trichotomy k 0 with h' | h' | h'
    · rw [Int.sign_eq_neg_one_of_neg h', if_pos (by decide)]; omega
    · subst h'; rw [if_neg (by decide)]; rfl
    · rw [Int.sign_eq_one_of_pos h', if_neg (by decide)]; omega
theorem divInt_den {n d : Int} (hd : d ≠ 0) : (Rat.divInt n d).den = d.natAbs / Nat.gcd n.natAbs d.natAbs := by
  rw [Rat.den_divInt, if_neg hd, show d.gcd n = Nat.gcd n.natAbs d.natAbs from Nat.gcd_comm _ _]
theorem qlen_divInt {n d : Int} (hd : d ≠ 0) : qlen (Rat.divInt n d) ≤ max (zlen n) (zlen d) := by
  have h1 : zlen (Rat.divInt n d).num ≤ zlen n := zlen_mono (by
    rw [← divInt_num hd]
    have := Nat.div_le_self n.natAbs (Nat.gcd n.natAbs d.natAbs)
    generalize n.natAbs / Nat.gcd n.natAbs d.natAbs = x at *
    split <;> omega)
  have h2 : zlen (Rat.divInt n d).den ≤ zlen d := zlen_mono (by
    rw [divInt_den hd]
    have := Nat.div_le_self d.natAbs (Nat.gcd n.natAbs d.natAbs)
    generalize d.natAbs / Nat.gcd n.natAbs d.natAbs = x at *
    omega)
  unfold qlen; omega
theorem qlen_num (q : Rat) : zlen q.num ≤ qlen q := Nat.le_max_left _ _
theorem qlen_den (q : Rat) : zlen q.den ≤ qlen q := Nat.le_max_right _ _
theorem qlen_v (a : BR) : qlen a.v ≤ max a.len 1 := by
  by_cases h : a.den.v = 0
  · have : a.v = 0 := by unfold BR.v; rw [h, Rat.divInt_zero]
    rw [this]
    have : qlen 0 ≤ 1 := by decide +kernel
    omega
  · have := qlen_divInt (n := a.num.v) h
    have h1 := zlen_v a.num
    have h2 := zlen_v a.den
    unfold BR.len BR.v; omega
theorem den_ne (q : Rat) : (q.den : Int) ≠ 0 := by have := q.den_nz; omega
theorem q_add_eq (x y : Rat) : Rat.divInt (x.num * y.den + y.num * x.den) (x.den * y.den) = x + y := by
  have := Rat.divInt_add_divInt x.num y.num (den_ne x) (den_ne y)
  rw [Rat.num_divInt_den, Rat.num_divInt_den] at this
  exact this.symm
theorem q_mul_eq (x y : Rat) : Rat.divInt (x.num * y.num) (x.den * y.den) = x * y := by
  have := Rat.divInt_mul_divInt x.num y.num (d₁ := x.den) (d₂ := y.den)
  rw [Rat.num_divInt_den, Rat.num_divInt_den] at this
  exact this.symm
theorem q_sub_eq (x y : Rat) : Rat.divInt (x.num * y.den - y.num * x.den) (x.den * y.den) = x - y := by
  have := Rat.divInt_add_divInt x.num (-y.num) (den_ne x) (den_ne y)
  rw [Rat.num_divInt_den, ← Rat.neg_divInt, Rat.num_divInt_den, Int.neg_mul, ← Int.sub_eq_add_neg] at this
  rw [← this, Rat.sub_eq_add_neg]
theorem den_mul_ne (x y : Rat) : (x.den : Int) * (y.den : Int) ≠ 0 := Int.mul_ne_zero (den_ne x) (den_ne y)
theorem qlen_add (x y : Rat) : qlen (x + y) ≤ qlen x + qlen y + 1 := by
  rw [← q_add_eq]
  have h := qlen_divInt (n := x.num * y.den + y.num * x.den) (den_mul_ne x y)
  have h1 := zlen_add (x.num * y.den) (y.num * x.den)
  have h2 := zlen_mul x.num y.den
  have h3 := zlen_mul y.num x.den
  have h4 := zlen_mul x.den y.den
  have a1 := qlen_num x
  have a2 := qlen_num y
  have a3 := qlen_den x
  have a4 := qlen_den y
  omega
theorem qlen_mul (x y : Rat) : qlen (x * y) ≤ qlen x + qlen y := by
  rw [← q_mul_eq]
  have h := qlen_divInt (n := x.num * y.num) (den_mul_ne x y)
  have h2 := zlen_mul x.num y.num
  have h4 := zlen_mul x.den y.den
  have a1 := qlen_num x
  have a2 := qlen_num y
  have a3 := qlen_den x
  have a4 := qlen_den y
  omega
theorem qlen_int (z : Int) : qlen z ≤ max (zlen z) 1 := by
  unfold qlen
  rw [Rat.num_intCast, Rat.den_intCast]
  have : zlen ((1 : Nat) : Int) = 1 := by decide +kernel
  omega

end Go.Gs
