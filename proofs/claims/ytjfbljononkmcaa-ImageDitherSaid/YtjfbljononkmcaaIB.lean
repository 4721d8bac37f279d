/- Pixels and pictures that may be. -/
import Derived.Test.YtjfbljononkmcaaIA
namespace Go.Gs
open Go.Proofs

structure Pix where
  r : Int
  g : Int
  b : Int
  a : Int
  deriving DecidableEq
def pixE (p : Pix) : List SV := [u8 p.r, u8 p.g, u8 p.b, u8 p.a]
structure Img where
  w : Int
  h : Int
  px : List Pix
  deriving DecidableEq
def imgE (m : Img) : List SV := [i64 m.w, i64 m.h, .sl pixE m.px]
def pxOK (p : Pix) : Prop := p.r ≤ p.a ∧ p.g ≤ p.a ∧ p.b ≤ p.a
instance (p : Pix) : Decidable (pxOK p) := inferInstanceAs (Decidable (_ ∧ _))
def imgOK (m : Img) : Prop := (1 ≤ m.w ∧ m.w ≤ 4096) ∧ (1 ≤ m.h ∧ m.h ≤ 4096) ∧ m.w * m.h ≤ 65536 ∧ (m.px.length : Int) = m.w * m.h ∧ ∀ p ∈ m.px, pxOK p
instance (m : Img) : Decidable (imgOK m) := inferInstanceAs (Decidable (_ ∧ _))
theorem pixE_len : ∀ p : Pix, (pixE p).length = 4 := fun _ => rfl

theorem c_clamp1 (x r g b a : Int) : CallsG Try.prog 69 [u8 x, .ptr [u8 r, u8 g, u8 b, u8 a]] [] (u8 (min x a)) [] := by
  refine calls_to tok mix Try.func69 rfl rfl rfl ?_
  exact LE_int rfl

theorem c_each (p : Pix) (r g b a : Int) : CallsG Try.prog 68 [.agg (pixE p), .fn 69 [.ptr [u8 r, u8 g, u8 b, u8 a]]] [] (.agg [u8 (min p.r a), u8 (min p.g a), u8 (min p.b a), u8 (min p.a a)]) [] := by
  refine calls_to tok mix Try.func68 rfl rfl rfl ?_
  refine Dr.mk (by decide +kernel) ?_
  refine CallV.to _ (c_clamp1 _ r g b a) rfl ?_
  refine CallV.to _ (c_clamp1 _ r g b a) rfl ?_
  refine CallV.to _ (c_clamp1 _ r g b a) rfl ?_
  refine CallV.to _ (c_clamp1 _ r g b a) rfl ?_
  exact .refl

theorem c_pclamp (p : Pix) : CallsG Try.prog 51 [.agg (pixE p)] [] (.agg [u8 (min p.r p.a), u8 (min p.g p.a), u8 (min p.b p.a), u8 (min p.a p.a)]) [] := by
  refine calls_to tok mix Try.func51 rfl rfl rfl ?_
  refine CallV.to _ (c_each p p.r p.g p.b p.a) rfl ?_
  exact .refl

theorem c_pvalid (p : Pix) : CallsG Try.prog 43 [.agg (pixE p)] [] (pr (pxOK p)) [] := by
  refine calls_to tok mix Try.func43 rfl rfl rfl ?_
  refine Dr.mk (by decide +kernel) ?_
  refine CallV.to _ (c_pclamp p) rfl ?_
  refine LE_pr (p := min p.r p.a = p.r ∧ min p.g p.a = p.g ∧ min p.b p.a = p.b ∧ min p.a p.a = p.a ∧ True) ?_
  constructor
  · rintro ⟨h1, h2, h3, _⟩
    exact ⟨by omega, by omega, by omega⟩
  · rintro ⟨h1, h2, h3⟩
    exact ⟨by omega, by omega, by omega, by omega, trivial⟩

theorem c_pvalid2 (p : Pix) : CallsG Try.prog 42 [.agg (pixE p)] [] (pr (¬ pxOK p)) [] := by
  refine calls_to tok mix Try.func42 rfl rfl rfl ?_
  refine CallV.to _ (c_pvalid p) rfl ?_
  exact LE_pr Iff.rfl

def badIdx (xs : List Pix) : Int := match xs.findIdx? (fun p => decide (¬ pxOK p)) with
  | some i => i
  | none => -1

theorem badIdx_at {xs : List Pix} {i : Nat} {p : Pix} (h : ∀ (j : Nat) q, j < i → xs[j]? = some q → pxOK q) (hi : xs[i]? = some p) (hp : ¬ pxOK p) : badIdx xs = i := by
  have : xs.findIdx? (fun p => decide (¬ pxOK p)) = some i := by
    rw [List.findIdx?_eq_some_iff_getElem]
    obtain ⟨hl, he⟩ := List.getElem?_eq_some_iff.1 hi
    refine ⟨hl, by simp [he, hp], fun j hj => ?_⟩
    have := h j xs[j] hj (List.getElem?_eq_getElem _)
    simp [this]
  simp only [badIdx, this]

theorem badIdx_none {xs : List Pix} (h : ∀ p ∈ xs, pxOK p) : badIdx xs = -1 := by
  have : xs.findIdx? (fun p => decide (¬ pxOK p)) = none := by
    rw [List.findIdx?_eq_none_iff]
    intro p hp
    simp [h p hp]
  simp only [badIdx, this]

theorem badIdx_nonneg {xs : List Pix} : 0 ≤ badIdx xs ↔ ¬ ∀ p ∈ xs, pxOK p := by
  constructor
  · intro h hall
    rw [badIdx_none hall] at h; omega
  · intro h
    unfold badIdx
    split
    · omega
    · rename_i hn
      rw [List.findIdx?_eq_none_iff] at hn
      exact absurd (fun p hp => by simpa using hn p hp) h

theorem c_index (xs : List Pix) (hl : xs.length ≤ 9223372036854775807) : CallsG Try.prog 66 [.sl pixE xs, .fn 42 []] [] (i64 (badIdx xs)) [] := by
  refine calls_to tok mix Try.func66 rfl rfl rfl ?_
  intro hl0
  refine ⟨Int, fun i => ⟨[(8, i64 i), (7, i64 xs.length), (0, .sl pixE xs), (1, .fn 42 [])], [], 0, 19, 0⟩, fun i => 0 ≤ i ∧ i ≤ xs.length ∧ ∀ (j : Nat) q, (j : Int) < i → xs[j]? = some q → pxOK q, fun i => ((xs.length : Int) - i).toNat, 0, ?_, ?_, ?_⟩
  · exact ⟨by omega, by omega, fun j q hj => by omega⟩
  · exact sub_of [] rfl rfl rfl ⟨rfl, rfl, rfl, rfl, trivial⟩ trivial
  rintro i ⟨h1, h2, h3⟩
  refine Br.mk (fun h4 => ?_) (fun h4 => ?_)
  · refine Ob.mk (by omega) ?_
    intro x hx
    refine CallV.to _ (c_pvalid2 x) rfl ?_
    refine Br.mk (fun h5 => ?_) (fun h5 => ?_)
    · refine LE_int ?_
      rw [badIdx_at (i := i.toNat) (fun j q hj => h3 j q (by omega)) hx h5]; omega
    · refine Ar.fit (by omega) ?_
      refine ⟨i + 1, ⟨by omega, by omega, fun j q hj hq => ?_⟩, sub_of [] rfl rfl rfl ⟨rfl, rfl, rfl, rfl, trivial⟩ trivial, by dsimp only; omega⟩
      by_cases e : j = i.toNat
      · subst e; rw [hx] at hq; cases hq; exact Decidable.not_not.1 h5
      · exact h3 j q (by omega) hq
  · refine LE_int (badIdx_none fun p hp => ?_).symm
    obtain ⟨j, hj, he⟩ := List.getElem_of_mem hp
    exact h3 j p (by omega) (by rw [← he]; exact List.getElem?_eq_getElem hj)

theorem c_contains (xs : List Pix) (hl : xs.length ≤ 9223372036854775807) : CallsG Try.prog 41 [.sl pixE xs, .fn 42 []] [] (pr (¬ ∀ p ∈ xs, pxOK p)) [] := by
  refine calls_to tok mix Try.func41 rfl rfl rfl ?_
  refine CallV.to _ (c_index xs hl) rfl ?_
  exact LE_pr badIdx_nonneg

theorem c_may (n : Int) : CallsG Try.prog 40 [i64 n] [] (pr (1 ≤ n ∧ n ≤ 4096)) [] := by
  refine calls_to tok mix Try.func40 rfl rfl rfl ?_
  refine Br.mk (fun h => ?_) (fun h => ?_)
  · exact LE_pr (by omega)
  · exact LE_false (by omega)

theorem mul_r {a b A B : Int} (h1 : 0 ≤ a) (h2 : a ≤ A) (h3 : 0 ≤ b) (h4 : b ≤ B) : 0 ≤ a * b ∧ a * b ≤ A * B :=
  ⟨Int.mul_nonneg h1 h3, Int.mul_le_mul h2 h4 h3 (by omega)⟩

theorem c_valid (m : Img) (hl : m.px.length ≤ 9223372036854775807) : CallsG Try.prog 18 [.agg (imgE m)] [] (pr (imgOK m)) [] := by
  refine calls_to tok mix Try.func18 rfl rfl rfl ?_
  refine CallV.to _ (c_may m.w) rfl ?_
  refine Br.mk (fun h1 => ?_) (fun h1 => ?_)
  · exact LE_false (fun h => h1 h.1)
  have h1 := Decidable.not_not.1 h1
  refine CallV.to _ (c_may m.h) rfl ?_
  refine Br.mk (fun h2 => ?_) (fun h2 => ?_)
  · exact LE_false (fun h => h2 h.2.1)
  have h2 := Decidable.not_not.1 h2
  have hm := mul_r (show 0 ≤ m.w by omega) h1.2 (show 0 ≤ m.h by omega) h2.2
  refine Ar.fit (by omega) ?_
  refine Br.mk (fun h3 => ?_) (fun h3 => ?_)
  · exact LE_false (fun h => by have := h.2.2.1; omega)
  intro hl0
  refine Ar.fit (by omega) ?_
  refine Br.mk (fun h4 => ?_) (fun h4 => ?_)
  · exact LE_false (fun h => h4 h.2.2.2.1)
  refine CallV.to _ (c_contains m.px hl) rfl ?_
  refine LE_pr ?_
  exact ⟨fun h => ⟨h1, h2, by omega, Decidable.not_not.1 h4, Decidable.not_not.1 h⟩, fun h h' => h' h.2.2.2.2⟩

end Go.Gs
