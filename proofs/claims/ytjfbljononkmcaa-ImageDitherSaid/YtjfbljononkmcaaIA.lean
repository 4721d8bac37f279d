/- The wrapped place of a row: two texts, one answer. -/
import Derived.Test.YtjfbljononkmcaaIT0
namespace Go.Gs
open Go.Proofs

def clampI (n lo hi : Int) : Int := if n < lo then lo else if hi < n then hi else n
def wrapI (i n m : Int) : Int × Bool :=
  if n < 1 then (0, false) else if 0 ≤ i ∧ i < n then (i, true) else if m = 1 then (clampI i 0 (n - 1), true) else if m = 2 then (i % n, true)
  else if m = 3 then ((if i / n % 2 = 1 then n - 1 - i % n else i % n), true) else (0, false)

theorem c_clamp (n lo hi : Int) : CallsG Try.prog 36 [i64 n, i64 lo, i64 hi] [] (i64 (clampI n lo hi)) [] := by
  refine calls_to tok mix Try.func36 rfl rfl rfl ?_
  refine Br.mk (fun h => ?_) (fun h => ?_)
  · exact LE_int (by simp [clampI, h])
  refine Br.mk (fun h2 => ?_) (fun h2 => ?_)
  · exact LE_int (by simp [clampI, h, h2])
  · exact LE_int (by simp [clampI, h, h2])

theorem c_mod (i n : Int) (hn : R64 n) (h1 : 1 ≤ n) : CallsG Try.prog 37 [i64 i, i64 n] [] (i64 (i % n)) [] := by
  refine calls_to tok mix Try.func37 rfl rfl rfl ?_
  have ht := tdm (m := i) (n := n) (by omega)
  refine Br.mk (fun h => ?_) (fun h => ?_)
  · omega
  refine Dv.any (by omega) ?_
  refine Br.mk (fun h2 => ?_) (fun h2 => ?_)
  · refine Ar.fit (by omega) ?_
    exact LE_int (by omega)
  · exact LE_int (by omega)

theorem c_mod' (i n : Int) (hn : R64 n) (h1 : 1 ≤ n) : CallsG Try.prog 38 [i64 i, i64 n] [] (i64 (i % n)) [] := by
  refine calls_to tok mix Try.func38 rfl rfl rfl ?_
  have ht := tdm (m := i) (n := n) (by omega)
  refine Br.mk (fun h => ?_) (fun h => ?_)
  · omega
  refine Dv.any (by omega) ?_
  refine Br.mk (fun h2 => ?_) (fun h2 => ?_)
  · refine Ar.fit (by omega) ?_
    exact LE_int (by omega)
  · exact LE_int (by omega)

theorem c_mirrored (i n : Int) (hi : R64 i) (hn : R64 n) (h1 : 1 ≤ n) : CallsG Try.prog 39 [i64 i, i64 n] [] (pr (i / n % 2 = 1)) [] := by
  refine calls_to tok mix Try.func39 rfl rfl rfl ?_
  have ht := tdm (m := i) (n := n) (by omega)
  have hr := tdiv_range (m := i) (n := n) (by omega) hi
  have e1 := tm2 (i.tdiv n)
  have e2 := tm2 (i.tdiv n - 1)
  refine Dv.any (by omega) ?_
  refine Ar.fit (by omega) ?_
  refine Br.mk (fun h => ?_) (fun h => ?_)
  · refine Dv.any (by omega) ?_
    refine Br.mk (fun h2 => ?_) (fun h2 => ?_)
    · refine Ar.fit (by omega) ?_
      refine Dv.any (by omega) ?_
      exact LE_pr (by omega)
    · refine Dv.any (by omega) ?_
      exact LE_pr (by omega)
  · refine Dv.any (by omega) ?_
    exact LE_pr (by omega)

theorem c_wrap (i n m : Int) (hi : R64 i) (hn : R64 n) : CallsG Try.prog 11 [i64 i, i64 n, i64 m] [] (.tup [i64 (wrapI i n m).1, pr ((wrapI i n m).2 = true)]) [] := by
  refine calls_to tok mix Try.func11 rfl rfl rfl ?_
  have fin : ∀ {σ : SV} {q : Int × Bool}, wrapI i n m = q → LE σ (.tup [i64 q.1, bl q.2]) → LE σ (.tup [i64 (wrapI i n m).1, pr ((wrapI i n m).2 = true)]) := fun e h => h.trans (by rw [e]; exact LE_tup2 .refl LE_blpr)
  refine Br.mk (fun h => ?_) (fun h => ?_)
  · exact fin (q := (0, false)) (by simp [wrapI, h]) .refl
  refine Br.mk (fun h2 => Br.mk (fun h3 => ?_) (fun h3 => ?_)) (fun h2 => ?_)
  · exact fin (q := (i, true)) (by simp [wrapI, h, h2, h3]) .refl
  all_goals
    have hne : ¬ (0 ≤ i ∧ i < n) := by omega
    have ht := tdm (m := i) (n := n) (by omega)
    have hr := tdiv_range (m := i) (n := n) (by omega) hi
    refine Br.mk (fun h4 => ?_) (fun h4 => ?_)
    · refine Ar.fit (by omega) ?_
      refine CallV.to _ (c_clamp i 0 (n - 1)) rfl ?_
      exact fin (q := (clampI i 0 (n - 1), true)) (by simp [wrapI, h, hne, h4]) .refl
    refine Br.mk (fun h5 => ?_) (fun h5 => ?_)
    · refine CallV.to _ (c_mod i n hn (by omega)) rfl ?_
      exact fin (q := (i % n, true)) (by simp [wrapI, h, hne, h5]) .refl
    refine Br.mk (fun h6 => ?_) (fun h6 => ?_)
    · refine Dr.mk (by decide +kernel) ?_
      refine CallV.to _ (c_mod i n hn (by omega)) rfl ?_
      refine Dv.any (by omega) ?_
      refine Ar.fit (by omega) ?_
      refine Dv.any (by omega) ?_
      have w3 : wrapI i n m = ((if i / n % 2 = 1 then n - 1 - i % n else i % n), true) := by simp [wrapI, h, hne, h6]
      refine Br.mk (fun h7 => ?_) (fun h7 => ?_)
      · refine Ar.fit (by omega) ?_
        refine ⟨_, rfl, ?_⟩
        refine Br.mk (fun h8 => ?_) (fun h8 => ?_)
        · rw [and_one] at h8
          refine Ar.fit (by omega) ?_
          refine Ar.fit (by omega) ?_
          exact fin w3 (LE_tup2 (LE_int (by rw [if_pos (by omega)])) .refl)
        · rw [and_one] at h8
          exact fin w3 (LE_tup2 (LE_int (by rw [if_neg (by omega)])) .refl)
      · refine ⟨_, rfl, ?_⟩
        refine Br.mk (fun h8 => ?_) (fun h8 => ?_)
        · rw [and_one] at h8
          refine Ar.fit (by omega) ?_
          refine Ar.fit (by omega) ?_
          exact fin w3 (LE_tup2 (LE_int (by rw [if_pos (by omega)])) .refl)
        · rw [and_one] at h8
          exact fin w3 (LE_tup2 (LE_int (by rw [if_neg (by omega)])) .refl)
    · exact fin (q := (0, false)) (by simp [wrapI, h, hne, h4, h5, h6]) .refl

theorem c_wrap' (i n m : Int) (hi : R64 i) (hn : R64 n) : CallsG Try.prog 12 [i64 i, i64 n, i64 m] [] (.tup [i64 (wrapI i n m).1, pr ((wrapI i n m).2 = true)]) [] := by
  refine calls_to tok mix Try.func12 rfl rfl rfl ?_
  have fin : ∀ {σ : SV} {q : Int × Bool}, wrapI i n m = q → LE σ (.tup [i64 q.1, bl q.2]) → LE σ (.tup [i64 (wrapI i n m).1, pr ((wrapI i n m).2 = true)]) := fun e h => h.trans (by rw [e]; exact LE_tup2 .refl LE_blpr)
  refine Br.mk (fun h => ?_) (fun h => ?_)
  · exact fin (q := (0, false)) (by simp [wrapI, h]) .refl
  refine Br.mk (fun h2 => Br.mk (fun h3 => ?_) (fun h3 => ?_)) (fun h2 => ?_)
  · exact fin (q := (i, true)) (by simp [wrapI, h, h2, h3]) .refl
  all_goals
    have hne : ¬ (0 ≤ i ∧ i < n) := by omega
    have hem := Int.emod_nonneg i (show n ≠ 0 by omega)
    have hem2 := Int.emod_lt_of_pos i (show 0 < n by omega)
    refine Br.mk (fun h4 => ?_) (fun h4 => ?_)
    · refine Ar.fit (by omega) ?_
      refine fin (q := (clampI i 0 (n - 1), true)) (by simp [wrapI, h, hne, h4]) (LE_tup2 (LE_int ?_) .refl)
      simp only [clampI, maxL, minL]
      split <;> (try split) <;> omega
    refine Br.mk (fun h5 => ?_) (fun h5 => ?_)
    · refine CallV.to _ (c_mod' i n hn (by omega)) rfl ?_
      exact fin (q := (i % n, true)) (by simp [wrapI, h, hne, h5]) .refl
    refine Br.mk (fun h6 => ?_) (fun h6 => ?_)
    · have w3 : wrapI i n m = ((if i / n % 2 = 1 then n - 1 - i % n else i % n), true) := by simp [wrapI, h, hne, h6]
      refine CallV.to _ (c_mirrored i n hi hn (by omega)) rfl ?_
      refine Br.mk (fun h7 => ?_) (fun h7 => ?_)
      · refine Ar.fit (by omega) ?_
        refine CallV.to _ (c_mod' i n hn (by omega)) rfl ?_
        refine Ar.fit (by omega) ?_
        exact fin w3 (LE_tup2 (LE_int (by rw [if_pos h7])) .refl)
      · refine CallV.to _ (c_mod' i n hn (by omega)) rfl ?_
        exact fin w3 (LE_tup2 (LE_int (by rw [if_neg h7])) .refl)
    · exact fin (q := (0, false)) (by simp [wrapI, h, hne, h4, h5, h6]) .refl

end Go.Gs
