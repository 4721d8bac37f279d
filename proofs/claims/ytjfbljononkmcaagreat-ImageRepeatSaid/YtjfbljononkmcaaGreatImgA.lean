/- The wrapped place of a row: two texts, one answer. -/
import Derived.Test.YtjfbljononkmcaaGreatIT0
namespace Go.Gs
open Go.Proofs

def clampI (n lo hi : Int) : Int := if n < lo then lo else if hi < n then hi else n
def wrapI (i n m : Int) : Int × Bool :=
  if n < 1 then (0, false) else if 0 ≤ i ∧ i < n then (i, true) else if m = 1 then (clampI i 0 (n - 1), true) else if m = 2 then (i % n, true)
  else if m = 3 then ((if i / n % 2 = 1 then n - 1 - i % n else i % n), true) else (0, false)

theorem c_clamp (n lo hi : Int) : CallsG Tryz.prog 39 [i64 n, i64 lo, i64 hi] [] (i64 (clampI n lo hi)) [] := by
  refine calls_to tok mix Tryz.func39 rfl rfl rfl ?_
  refine Br.mk (fun h => ?_) (fun h => ?_)
  · exact LE_int (by simp [clampI, h])
  refine Br.mk (fun h2 => ?_) (fun h2 => ?_)
  · exact LE_int (by simp [clampI, h, h2])
  · exact LE_int (by simp [clampI, h, h2])

theorem c_mod (i n : Int) (hn : R64 n) (h1 : 1 ≤ n) : CallsG Tryz.prog 40 [i64 i, i64 n] [] (i64 (i % n)) [] := by
  refine calls_to tok mix Tryz.func40 rfl rfl rfl ?_
  have ht := tdm (m := i) (n := n) (by omega)
  refine Br.mk (fun h => ?_) (fun h => ?_)
  · omega
  refine Dv.any (by omega) ?_
  refine Br.mk (fun h2 => ?_) (fun h2 => ?_)
  · refine Ar.fit (by omega) ?_
    exact LE_int (by omega)
  · exact LE_int (by omega)

theorem c_mod' (i n : Int) (hn : R64 n) (h1 : 1 ≤ n) : CallsG Tryz.prog 80 [i64 i, i64 n] [] (i64 (i % n)) [] := by
  refine calls_to tok mix Tryz.func80 rfl rfl rfl ?_
  have ht := tdm (m := i) (n := n) (by omega)
  refine Br.mk (fun h => ?_) (fun h => ?_)
  · omega
  refine Dv.any (by omega) ?_
  refine Br.mk (fun h2 => ?_) (fun h2 => ?_)
  · refine Ar.fit (by omega) ?_
    exact LE_int (by omega)
  · exact LE_int (by omega)

theorem c_mirrored (i n : Int) (hi : R64 i) (hn : R64 n) (h1 : 1 ≤ n) : CallsG Tryz.prog 81 [i64 i, i64 n] [] (pr (i / n % 2 = 1)) [] := by
  refine calls_to tok mix Tryz.func81 rfl rfl rfl ?_
  have ht := tdm (m := i) (n := n) (by omega)
  have hr := tdiv_range (m := i) (n := n) (by omega) hi
  have e1 := tm2 (i.tdiv n)
  have e2 := tm2 (i.tdiv n - 1)
  refine Dv.any (by omega) ?_
  refine Ar.fit (by omega) ?_
  refine Br.mk (fun h => ?_) (fun h => ?_)
  · refine Dv.any (by omega) ?_
    refine Br.mk (fun h2 => ?_) (fun h2 => ?_)
    · refine Ar.fit (by omega) ?_
      refine Dv.any (by omega) ?_
      exact LE_pr (by omega)
    · refine Dv.any (by omega) ?_
      exact LE_pr (by omega)
  · refine Dv.any (by omega) ?_
    exact LE_pr (by omega)

theorem c_wrap (i n m : Int) (hi : R64 i) (hn : R64 n) : CallsG Tryz.prog 19 [i64 i, i64 n, i64 m] [] (.tup [i64 (wrapI i n m).1, pr ((wrapI i n m).2 = true)]) [] := by
  refine calls_to tok mix Tryz.func19 rfl rfl rfl ?_
  have fin : ∀ {σ : SV} {q : Int × Bool}, wrapI i n m = q → LE σ (.tup [i64 q.1, bl q.2]) → LE σ (.tup [i64 (wrapI i n m).1, pr ((wrapI i n m).2 = true)]) := fun e h => h.trans (by rw [e]; exact LE_tup2 .refl LE_blpr)
  refine Br.mk (fun h => ?_) (fun h => ?_)
  · exact fin (q := (0, false)) (by simp [wrapI, h]) .refl
  refine Br.mk (fun h2 => Br.mk (fun h3 => ?_) (fun h3 => ?_)) (fun h2 => ?_)
  · exact fin (q := (i, true)) (by simp [wrapI, h, h2, h3]) .refl
  all_goals
    have hne : ¬ (0 ≤ i ∧ i < n) := by omega
    have ht := tdm (m := i) (n := n) (by omega)
    have hr := tdiv_range (m := i) (n := n) (by omega) hi
    refine Br.mk (fun h4 => ?_) (fun h4 => ?_)
    · refine Ar.fit (by omega) ?_
      refine CallV.to _ (c_clamp i 0 (n - 1)) rfl ?_
      exact fin (q := (clampI i 0 (n - 1), true)) (by simp [wrapI, h, hne, h4]) .refl
    refine Br.mk (fun h5 => ?_) (fun h5 => ?_)
    · refine CallV.to _ (c_mod i n hn (by omega)) rfl ?_
      exact fin (q := (i % n, true)) (by simp [wrapI, h, hne, h5]) .refl
    refine Br.mk (fun h6 => ?_) (fun h6 => ?_)
    · refine Dr.mk (by decide +kernel) ?_
      refine CallV.to _ (c_mod i n hn (by omega)) rfl ?_
      refine Dv.any (by omega) ?_
      refine Ar.fit (by omega) ?_
      refine Dv.any (by omega) ?_
      have w3 : wrapI i n m = ((if i / n % 2 = 1 then n - 1 - i % n else i % n), true) := by simp [wrapI, h, hne, h6]
      refine Br.mk (fun h7 => ?_) (fun h7 => ?_)
      · refine Ar.fit (by omega) ?_
        refine ⟨_, rfl, ?_⟩
        refine Br.mk (fun h8 => ?_) (fun h8 => ?_)
        · rw [and_one] at h8
          refine Ar.fit (by omega) ?_
          refine Ar.fit (by omega) ?_
          exact fin w3 (LE_tup2 (LE_int (by rw [if_pos (by omega)])) .refl)
        · rw [and_one] at h8
          exact fin w3 (LE_tup2 (LE_int (by rw [if_neg (by omega)])) .refl)
      · refine ⟨_, rfl, ?_⟩
        refine Br.mk (fun h8 => ?_) (fun h8 => ?_)
        · rw [and_one] at h8
          refine Ar.fit (by omega) ?_
          refine Ar.fit (by omega) ?_
          exact fin w3 (LE_tup2 (LE_int (by rw [if_pos (by omega)])) .refl)
        · rw [and_one] at h8
          exact fin w3 (LE_tup2 (LE_int (by rw [if_neg (by omega)])) .refl)
    · exact fin (q := (0, false)) (by simp [wrapI, h, hne, h4, h5, h6]) .refl

theorem c_wrap' (i n m : Int) (hi : R64 i) (hn : R64 n) : CallsG Tryz.prog 54 [i64 i, i64 n, i64 m] [] (.tup [i64 (wrapI i n m).1, pr ((wrapI i n m).2 = true)]) [] := by
  refine calls_to tok mix Tryz.func54 rfl rfl rfl ?_
  have fin : ∀ {σ : SV} {q : Int × Bool}, wrapI i n m = q → LE σ (.tup [i64 q.1, bl q.2]) → LE σ (.tup [i64 (wrapI i n m).1, pr ((wrapI i n m).2 = true)]) := fun e h => h.trans (by rw [e]; exact LE_tup2 .refl LE_blpr)
  refine Br.mk (fun h => ?_) (fun h => ?_)
  · exact fin (q := (0, false)) (by simp [wrapI, h]) .refl
  refine Br.mk (fun h2 => Br.mk (fun h3 => ?_) (fun h3 => ?_)) (fun h2 => ?_)
  · exact fin (q := (i, true)) (by simp [wrapI, h, h2, h3]) .refl
  all_goals
    have hne : ¬ (0 ≤ i ∧ i < n) := by omega
    have hem := Int.emod_nonneg i (show n ≠ 0 by omega)
    have hem2 := Int.emod_lt_of_pos i (show 0 < n by omega)
    refine Br.mk (fun h4 => ?_) (fun h4 => ?_)
    · refine Ar.fit (by omega) ?_
      refine fin (q := (clampI i 0 (n - 1), true)) (by simp [wrapI, h, hne, h4]) (LE_tup2 (LE_int ?_) .refl)
      simp only [clampI, maxL, minL]
      split <;> (try split) <;> omega
    refine Br.mk (fun h5 => ?_) (fun h5 => ?_)
    · refine CallV.to _ (c_mod' i n hn (by omega)) rfl ?_
      exact fin (q := (i % n, true)) (by simp [wrapI, h, hne, h5]) .refl
    refine Br.mk (fun h6 => ?_) (fun h6 => ?_)
    · have w3 : wrapI i n m = ((if i / n % 2 = 1 then n - 1 - i % n else i % n), true) := by simp [wrapI, h, hne, h6]
      refine CallV.to _ (c_mirrored i n hi hn (by omega)) rfl ?_
      refine Br.mk (fun h7 => ?_) (fun h7 => ?_)
      · refine Ar.fit (by omega) ?_
        refine CallV.to _ (c_mod' i n hn (by omega)) rfl ?_
        refine Ar.fit (by omega) ?_
        exact fin w3 (LE_tup2 (LE_int (by rw [if_pos h7])) .refl)
      · refine CallV.to _ (c_mod' i n hn (by omega)) rfl ?_
        exact fin w3 (LE_tup2 (LE_int (by rw [if_neg h7])) .refl)
    · exact fin (q := (0, false)) (by simp [wrapI, h, hne, h4, h5, h6]) .refl

end Go.Gs
/- Pixels and pictures that may be. -/
namespace Go.Gs
open Go.Proofs

structure Pix where
  r : Int
  g : Int
  b : Int
  a : Int
  deriving DecidableEq
def pixE (p : Pix) : List SV := [u8 p.r, u8 p.g, u8 p.b, u8 p.a]
structure Img where
  w : Int
  h : Int
  px : List Pix
  deriving DecidableEq
def imgE (m : Img) : List SV := [i64 m.w, i64 m.h, .sl pixE m.px]
def pxOK (p : Pix) : Prop := p.r ≤ p.a ∧ p.g ≤ p.a ∧ p.b ≤ p.a
instance (p : Pix) : Decidable (pxOK p) := inferInstanceAs (Decidable (_ ∧ _))
def imgOK (m : Img) : Prop := (1 ≤ m.w ∧ m.w ≤ 4096) ∧ (1 ≤ m.h ∧ m.h ≤ 4096) ∧ m.w * m.h ≤ 65536 ∧ (m.px.length : Int) = m.w * m.h ∧ ∀ p ∈ m.px, pxOK p
instance (m : Img) : Decidable (imgOK m) := inferInstanceAs (Decidable (_ ∧ _))
theorem pixE_len : ∀ p : Pix, (pixE p).length = 4 := fun _ => rfl

theorem c_clamp1 (x r g b a : Int) : CallsG Tryz.prog 88 [u8 x, .ptr [u8 r, u8 g, u8 b, u8 a]] [] (u8 (min x a)) [] := by
  refine calls_to tok mix Tryz.func88 rfl rfl rfl ?_
  exact LE_int rfl

theorem c_each (p : Pix) (r g b a : Int) : CallsG Tryz.prog 87 [.agg (pixE p), .fn 88 [.ptr [u8 r, u8 g, u8 b, u8 a]]] [] (.agg [u8 (min p.r a), u8 (min p.g a), u8 (min p.b a), u8 (min p.a a)]) [] := by
  refine calls_to tok mix Tryz.func87 rfl rfl rfl ?_
  refine Dr.mk (by decide +kernel) ?_
  refine CallV.to _ (c_clamp1 _ r g b a) rfl ?_
  refine CallV.to _ (c_clamp1 _ r g b a) rfl ?_
  refine CallV.to _ (c_clamp1 _ r g b a) rfl ?_
  refine CallV.to _ (c_clamp1 _ r g b a) rfl ?_
  exact .refl

theorem c_pclamp (p : Pix) : CallsG Tryz.prog 68 [.agg (pixE p)] [] (.agg [u8 (min p.r p.a), u8 (min p.g p.a), u8 (min p.b p.a), u8 (min p.a p.a)]) [] := by
  refine calls_to tok mix Tryz.func68 rfl rfl rfl ?_
  refine CallV.to _ (c_each p p.r p.g p.b p.a) rfl ?_
  exact .refl

theorem c_pvalid (p : Pix) : CallsG Tryz.prog 44 [.agg (pixE p)] [] (pr (pxOK p)) [] := by
  refine calls_to tok mix Tryz.func44 rfl rfl rfl ?_
  refine Dr.mk (by decide +kernel) ?_
  refine CallV.to _ (c_pclamp p) rfl ?_
  refine LE_pr (p := min p.r p.a = p.r ∧ min p.g p.a = p.g ∧ min p.b p.a = p.b ∧ min p.a p.a = p.a ∧ True) ?_
  constructor
  · rintro ⟨h1, h2, h3, _⟩
    exact ⟨by omega, by omega, by omega⟩
  · rintro ⟨h1, h2, h3⟩
    exact ⟨by omega, by omega, by omega, by omega, trivial⟩

theorem c_pvalid2 (p : Pix) : CallsG Tryz.prog 43 [.agg (pixE p)] [] (pr (¬ pxOK p)) [] := by
  refine calls_to tok mix Tryz.func43 rfl rfl rfl ?_
  refine CallV.to _ (c_pvalid p) rfl ?_
  exact LE_pr Iff.rfl

def badIdx (xs : List Pix) : Int := match xs.findIdx? (fun p => decide (¬ pxOK p)) with
  | some i => i
  | none => -1

theorem badIdx_at {xs : List Pix} {i : Nat} {p : Pix} (h : ∀ (j : Nat) q, j < i → xs[j]? = some q → pxOK q) (hi : xs[i]? = some p) (hp : ¬ pxOK p) : badIdx xs = i := by
  have : xs.findIdx? (fun p => decide (¬ pxOK p)) = some i := by
    rw [List.findIdx?_eq_some_iff_getElem]
    obtain ⟨hl, he⟩ := List.getElem?_eq_some_iff.1 hi
    refine ⟨hl, by simp [he, hp], fun j hj => ?_⟩
    have := h j xs[j] hj (List.getElem?_eq_getElem _)
    simp [this]
  simp only [badIdx, this]

theorem badIdx_none {xs : List Pix} (h : ∀ p ∈ xs, pxOK p) : badIdx xs = -1 := by
  have : xs.findIdx? (fun p => decide (¬ pxOK p)) = none := by
    rw [List.findIdx?_eq_none_iff]
    intro p hp
    simp [h p hp]
  simp only [badIdx, this]

theorem badIdx_nonneg {xs : List Pix} : 0 ≤ badIdx xs ↔ ¬ ∀ p ∈ xs, pxOK p := by
  constructor
  · intro h hall
    rw [badIdx_none hall] at h; omega
  · intro h
    unfold badIdx
    split
    · omega
    · rename_i hn
      rw [List.findIdx?_eq_none_iff] at hn
      exact absurd (fun p hp => by simpa using hn p hp) h

theorem c_index (xs : List Pix) (hl : xs.length ≤ 9223372036854775807) : CallsG Tryz.prog 67 [.sl pixE xs, .fn 43 []] [] (i64 (badIdx xs)) [] := by
  refine calls_to tok mix Tryz.func67 rfl rfl rfl ?_
  intro hl0
  refine ⟨Int, fun i => ⟨[(8, i64 i), (7, i64 xs.length), (0, .sl pixE xs), (1, .fn 43 [])], [], 0, 19, 0⟩, fun i => 0 ≤ i ∧ i ≤ xs.length ∧ ∀ (j : Nat) q, (j : Int) < i → xs[j]? = some q → pxOK q, fun i => ((xs.length : Int) - i).toNat, 0, ?_, ?_, ?_⟩
  · exact ⟨by omega, by omega, fun j q hj => by omega⟩
  · exact sub_of [] rfl rfl rfl ⟨rfl, rfl, rfl, rfl, trivial⟩ trivial
  rintro i ⟨h1, h2, h3⟩
  refine Br.mk (fun h4 => ?_) (fun h4 => ?_)
  · refine Ob.mk (by omega) ?_
    intro x hx
    refine CallV.to _ (c_pvalid2 x) rfl ?_
    refine Br.mk (fun h5 => ?_) (fun h5 => ?_)
    · refine LE_int ?_
      rw [badIdx_at (i := i.toNat) (fun j q hj => h3 j q (by omega)) hx h5]; omega
    · refine Ar.fit (by omega) ?_
      refine ⟨i + 1, ⟨by omega, by omega, fun j q hj hq => ?_⟩, sub_of [] rfl rfl rfl ⟨rfl, rfl, rfl, rfl, trivial⟩ trivial, by dsimp only; omega⟩
      by_cases e : j = i.toNat
      · subst e; rw [hx] at hq; cases hq; exact Decidable.not_not.1 h5
      · exact h3 j q (by omega) hq
  · refine LE_int (badIdx_none fun p hp => ?_).symm
    obtain ⟨j, hj, he⟩ := List.getElem_of_mem hp
    exact h3 j p (by omega) (by rw [← he]; exact List.getElem?_eq_getElem hj)

theorem c_contains (xs : List Pix) (hl : xs.length ≤ 9223372036854775807) : CallsG Tryz.prog 42 [.sl pixE xs, .fn 43 []] [] (pr (¬ ∀ p ∈ xs, pxOK p)) [] := by
  refine calls_to tok mix Tryz.func42 rfl rfl rfl ?_
  refine CallV.to _ (c_index xs hl) rfl ?_
  exact LE_pr badIdx_nonneg

theorem c_may (n : Int) : CallsG Tryz.prog 41 [i64 n] [] (pr (1 ≤ n ∧ n ≤ 4096)) [] := by
  refine calls_to tok mix Tryz.func41 rfl rfl rfl ?_
  refine Br.mk (fun h => ?_) (fun h => ?_)
  · exact LE_pr (by omega)
  · exact LE_false (by omega)

theorem mul_r {a b A B : Int} (h1 : 0 ≤ a) (h2 : a ≤ A) (h3 : 0 ≤ b) (h4 : b ≤ B) : 0 ≤ a * b ∧ a * b ≤ A * B :=
  ⟨Int.mul_nonneg h1 h3, Int.mul_le_mul h2 h4 h3 (by omega)⟩

theorem c_valid (m : Img) (hl : m.px.length ≤ 9223372036854775807) : CallsG Tryz.prog 20 [.agg (imgE m)] [] (pr (imgOK m)) [] := by
  refine calls_to tok mix Tryz.func20 rfl rfl rfl ?_
  refine CallV.to _ (c_may m.w) rfl ?_
  refine Br.mk (fun h1 => ?_) (fun h1 => ?_)
  · exact LE_false (fun h => h1 h.1)
  have h1 := Decidable.not_not.1 h1
  refine CallV.to _ (c_may m.h) rfl ?_
  refine Br.mk (fun h2 => ?_) (fun h2 => ?_)
  · exact LE_false (fun h => h2 h.2.1)
  have h2 := Decidable.not_not.1 h2
  have hm := mul_r (show 0 ≤ m.w by omega) h1.2 (show 0 ≤ m.h by omega) h2.2
  refine Ar.fit (by omega) ?_
  refine Br.mk (fun h3 => ?_) (fun h3 => ?_)
  · exact LE_false (fun h => by have := h.2.2.1; omega)
  intro hl0
  refine Ar.fit (by omega) ?_
  refine Br.mk (fun h4 => ?_) (fun h4 => ?_)
  · exact LE_false (fun h => h4 h.2.2.2.1)
  refine CallV.to _ (c_contains m.px hl) rfl ?_
  refine LE_pr ?_
  exact ⟨fun h => ⟨h1, h2, by omega, Decidable.not_not.1 h4, Decidable.not_not.1 h⟩, fun h h' => h' h.2.2.2.2⟩

end Go.Gs
/- The example of the laws of pictures; the first law. -/
namespace Go.Gs
open Go.Proofs

theorem c_example : CallsG Tryz.prog 7 [] [] (bl true) [] := by
  refine calls_to tok mix Tryz.func7 rfl rfl rfl ?_
  refine CallV.to _ (c_wrap (-1) 3 3 (by decide) (by decide)) rfl ?_
  refine CallV.to _ (c_wrap 4 3 3 (by decide) (by decide)) rfl ?_
  refine Br.mk (fun _ => ?_) (fun h => absurd (by decide) h)
  refine Br.mk (fun _ => ?_) (fun h => absurd (by decide) h)
  refine Br.mk (fun _ => ?_) (fun h => absurd (by decide) h)
  refine Br.mk (fun _ => ?_) (fun h => absurd (by decide) h)
  refine ⟨Pix, pixE, [⟨0, 0, 0, 5⟩], rfl, Ob.mk ⟨rfl, by decide, by decide, by decide, fun x hx => by cases hx with | head => exact ⟨rfl, rfl, rfl⟩ | tail _ h => cases h⟩ ?_⟩
  refine CallV.to _ (c_valid ⟨1, 1, [⟨0, 0, 0, 5⟩]⟩ (by decide)) rfl ?_
  exact LE_yes (by decide)

end Go.Gs
/- Pictures that may be, the other text; pictures that are the same; texels. -/
namespace Go.Gs
open Go.Proofs

theorem c_size (w h : Int) : CallsG Tryz.prog 29 [i64 w, i64 h] [] (pr ((1 ≤ w ∧ w ≤ 4096) ∧ (1 ≤ h ∧ h ≤ 4096) ∧ w * h ≤ 65536)) [] := by
  refine calls_to tok mix Tryz.func29 rfl rfl rfl ?_
  refine Br.mk (fun h1 => ?_) (fun h1 => LE_false (by omega))
  refine Br.mk (fun h2 => ?_) (fun h2 => LE_false (by omega))
  refine Br.mk (fun h3 => ?_) (fun h3 => LE_false (by omega))
  refine Br.mk (fun h4 => ?_) (fun h4 => LE_false (by omega))
  have hm := mul_r (show 0 ≤ w by omega) h2 (show 0 ≤ h by omega) h4
  refine Ar.fit (by omega) ?_
  exact LE_pr ⟨fun h => ⟨⟨h1, h2⟩, ⟨h3, h4⟩, h⟩, fun h => h.2.2⟩

theorem c_pvalid' (p : Pix) : CallsG Tryz.prog 10 [.agg (pixE p)] [] (pr (pxOK p)) [] := by
  refine calls_to tok mix Tryz.func10 rfl rfl rfl ?_
  refine Br.mk (fun h1 => ?_) (fun h1 => LE_false (fun h => h1 h.1))
  refine Br.mk (fun h2 => ?_) (fun h2 => LE_false (fun h => h2 h.2.1))
  exact LE_pr ⟨fun h => ⟨h1, h2, h⟩, fun h => h.2.2⟩

theorem c_valid' (m : Img) : CallsG Tryz.prog 11 [.agg (imgE m)] [] (pr (imgOK m)) [] := by
  refine calls_to tok mix Tryz.func11 rfl rfl rfl ?_
  refine CallV.to _ (c_size m.w m.h) rfl ?_
  refine Br.mk (fun h1 => LE_false (fun h => h1 ⟨h.1, h.2.1, h.2.2.1⟩)) (fun h1 => ?_)
  have h1 := Decidable.not_not.1 h1
  have hm := mul_r (show 0 ≤ m.w by omega) h1.1.2 (show 0 ≤ m.h by omega) h1.2.1.2
  intro hl0
  refine Ar.fit (by omega) ?_
  refine Br.mk (fun h4 => LE_false (fun h => h4 h.2.2.2.1)) (fun h4 => ?_)
  have h4 := Decidable.not_not.1 h4
  refine ⟨Int, fun i => ⟨[(3, i64 i), (1, .loc 0 0)], [(0, .box 24 (imgE m))], 1, 35, 0⟩, fun i => 0 ≤ i ∧ i ≤ m.px.length ∧ ∀ (j : Nat) q, (j : Int) < i → m.px[j]? = some q → pxOK q, fun i => ((m.px.length : Int) - i).toNat, 0, ?_, ?_, ?_⟩
  · exact ⟨by omega, by omega, fun j q hj => by omega⟩
  · exact sub_of [(0, some 0)] rfl rfl rfl ⟨rfl, rfl, trivial⟩ ⟨rfl, trivial⟩
  rintro i ⟨g1, g2, g3⟩
  intro hl1
  refine Br.mk (fun g4 => ?_) (fun g4 => ?_)
  · refine Ob.mk (by omega) ?_
    intro x hx
    refine CallV.to _ (c_pvalid' x) rfl ?_
    refine Br.mk (fun g5 => ?_) (fun g5 => ?_)
    · exact LE_false fun h => g5 (h.2.2.2.2 x (List.mem_of_getElem? hx))
    · refine Ar.fit (by omega) ?_
      refine ⟨i + 1, ⟨by omega, by omega, fun j q hj hq => ?_⟩, sub_of [(0, some 0)] rfl rfl rfl ⟨rfl, rfl, trivial⟩ ⟨rfl, trivial⟩, by dsimp only; omega⟩
      by_cases e : j = i.toNat
      · subst e; rw [hx] at hq; cases hq; exact Decidable.not_not.1 g5
      · exact g3 j q (by omega) hq
  · refine LE_true ⟨h1.1, h1.2.1, h1.2.2, h4, fun p hp => ?_⟩
    obtain ⟨j, hj, he⟩ := List.getElem_of_mem hp
    exact g3 j p (by omega) (by rw [← he]; exact List.getElem?_eq_getElem hj)

theorem pix_eq {p q : Pix} : (p.r = q.r ∧ p.g = q.g ∧ p.b = q.b ∧ p.a = q.a ∧ True) ↔ p = q := by
  cases p; cases q; simp

theorem list_eq {xs ys : List Pix} {i : Int} (hl : (xs.length : Int) = ys.length) (hi : ¬ i < xs.length) (h : ∀ j : Nat, (j : Int) < i → xs[j]? = ys[j]?) : xs = ys := by
  refine List.ext_getElem? fun j => ?_
  by_cases hj : (j : Int) < i
  · exact h j hj
  · rw [List.getElem?_eq_none (by omega), List.getElem?_eq_none (by omega)]

theorem c_small (m : Img) : CallsG Tryz.prog 5 [.agg (imgE m)] [] (pr ((m.px.length : Int) ≤ 2000)) [] := by
  refine calls_to tok mix Tryz.func5 rfl rfl rfl ?_
  intro _
  exact LE_pr Iff.rfl

end Go.Gs
/- Texels; the third law. -/
namespace Go.Gs
open Go.Proofs

theorem wrapI_lt {i n m : Int} (h : (wrapI i n m).2 = true) : 0 ≤ (wrapI i n m).1 ∧ (wrapI i n m).1 < n := by
  unfold wrapI at h ⊢
  by_cases h1 : n < 1
  · simp [h1] at h
  have hem := Int.emod_nonneg i (show n ≠ 0 by omega)
  have hem2 := Int.emod_lt_of_pos i (show 0 < n by omega)
  rw [if_neg h1] at h ⊢
  split
  · rename_i h2; exact ⟨h2.1, h2.2⟩
  · split
    · simp only [clampI]; split <;> (try split) <;> omega
    · split
      · exact ⟨hem, hem2⟩
      · split
        · dsimp only; split <;> omega
        · simp_all

def zeroP : Pix := ⟨0, 0, 0, 0⟩
def texelI (m : Img) (x y md : Int) : Pix := if (wrapI x m.w md).2 = true ∧ (wrapI y m.h md).2 = true then m.px.getD ((wrapI y m.h md).1 * m.w + (wrapI x m.w md).1).toNat zeroP else zeroP

theorem place_lt {a b w h l : Int} (ha : 0 ≤ a ∧ a < w) (hb : 0 ≤ b ∧ b < h) (hl : l = w * h) : 0 ≤ b * w ∧ b * w < l ∧ 0 ≤ b * w + a ∧ b * w + a < l := by
  have h1 := Int.mul_nonneg hb.1 (show 0 ≤ w by omega)
  have h2 : (b + 1) * w ≤ h * w := Int.mul_le_mul_of_nonneg_right (by omega) (by omega)
  rw [Int.add_mul, Int.one_mul, Int.mul_comm h w] at h2
  omega

theorem c_texel0 (m : Img) (x y md : Int) (hm : imgOK m) (hx : R64 x) (hy : R64 y) :
    CallsG Tryz.prog 38 [.agg (imgE m), i64 x, i64 y, i64 md] [] (.agg (pixE (texelI m x y md))) [] := by
  refine calls_to tok mix Tryz.func38 rfl rfl rfl ?_
  obtain ⟨m1, m2, m3, m4, _⟩ := hm
  have fin : ∀ {σ : SV} {q : Pix}, texelI m x y md = q → LE σ (.agg (pixE q)) → LE σ (.agg (pixE (texelI m x y md))) := fun e h => e ▸ h
  refine CallV.to _ (c_wrap x m.w md hx (by omega)) rfl ?_
  refine CallV.to _ (c_wrap y m.h md hy (by omega)) rfl ?_
  refine Br.mk (fun h1 => fin (q := zeroP) (if_neg fun h => h1 h.1) .refl) (fun h1 => ?_)
  refine Br.mk (fun h2 => fin (q := zeroP) (if_neg fun h => h2 h.2) .refl) (fun h2 => ?_)
  have h1 := Decidable.not_not.1 h1
  have h2 := Decidable.not_not.1 h2
  have hp := place_lt (wrapI_lt h1) (wrapI_lt h2) m4
  refine Ar.fit (by omega) ?_
  refine Ar.fit (by omega) ?_
  refine Ob.mk (by omega) ?_
  intro q hq
  refine fin (q := q) ?_ .refl
  unfold texelI
  rw [if_pos ⟨h1, h2⟩, List.getD_eq_getElem?_getD, hq]
  rfl

theorem c_texel0' (m : Img) (x y md : Int) (hm : imgOK m) (hx : R64 x) (hy : R64 y) :
    CallsG Tryz.prog 25 [.agg (imgE m), i64 x, i64 y, i64 md] [] (.agg (pixE (texelI m x y md))) [] := by
  refine calls_to tok mix Tryz.func25 rfl rfl rfl ?_
  obtain ⟨m1, m2, m3, m4, _⟩ := hm
  have fin : ∀ {σ : SV} {q : Pix}, texelI m x y md = q → LE σ (.agg (pixE q)) → LE σ (.agg (pixE (texelI m x y md))) := fun e h => e ▸ h
  refine CallV.to _ (c_wrap' x m.w md hx (by omega)) rfl ?_
  refine CallV.to _ (c_wrap' y m.h md hy (by omega)) rfl ?_
  refine Br.mk (fun h1 => fin (q := zeroP) (if_neg fun h => h1 h.1) .refl) (fun h1 => ?_)
  refine Br.mk (fun h2 => fin (q := zeroP) (if_neg fun h => h2 h.2) .refl) (fun h2 => ?_)
  have h1 := Decidable.not_not.1 h1
  have h2 := Decidable.not_not.1 h2
  have hp := place_lt (wrapI_lt h1) (wrapI_lt h2) m4
  refine Ar.fit (by omega) ?_
  refine Ar.fit (by omega) ?_
  refine Ob.mk (by omega) ?_
  intro q hq
  refine fin (q := q) ?_ .refl
  unfold texelI
  rw [if_pos ⟨h1, h2⟩, List.getD_eq_getElem?_getD, hq]
  rfl

def texel (m : Img) (x y md : Int) : Pix := if imgOK m then texelI m x y md else zeroP

theorem c_texel (m : Img) (x y md : Int) (hl : m.px.length ≤ 9223372036854775807) (hx : R64 x) (hy : R64 y) :
    CallsG Tryz.prog 18 [.agg (imgE m), i64 x, i64 y, i64 md] [] (.agg (pixE (texel m x y md))) [] := by
  refine calls_to tok mix Tryz.func18 rfl rfl rfl ?_
  have fin : ∀ {σ : SV} {q : Pix}, texel m x y md = q → LE σ (.agg (pixE q)) → LE σ (.agg (pixE (texel m x y md))) := fun e h => e ▸ h
  refine CallV.to _ (c_valid m hl) rfl ?_
  refine Br.mk (fun h1 => fin (q := zeroP) (if_neg h1) .refl) (fun h1 => ?_)
  have h1 := Decidable.not_not.1 h1
  refine CallV.to _ (c_texel0 m x y md h1 hx hy) rfl ?_
  exact fin (if_pos h1) .refl

end Go.Gs
