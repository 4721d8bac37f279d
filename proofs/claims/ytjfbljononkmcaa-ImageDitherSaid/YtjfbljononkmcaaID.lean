/- Pictures that may be, the other text; pictures that are the same; texels. -/
import Derived.Test.YtjfbljononkmcaaIC
namespace Go.Gs
open Go.Proofs

theorem c_size (w h : Int) : CallsG Try.prog 25 [i64 w, i64 h] [] (pr ((1 ≤ w ∧ w ≤ 4096) ∧ (1 ≤ h ∧ h ≤ 4096) ∧ w * h ≤ 65536)) [] := by
  refine calls_to tok mix Try.func25 rfl rfl rfl ?_
  refine Br.mk (fun h1 => ?_) (fun h1 => LE_false (by omega))
  refine Br.mk (fun h2 => ?_) (fun h2 => LE_false (by omega))
  refine Br.mk (fun h3 => ?_) (fun h3 => LE_false (by omega))
  refine Br.mk (fun h4 => ?_) (fun h4 => LE_false (by omega))
  have hm := mul_r (show 0 ≤ w by omega) h2 (show 0 ≤ h by omega) h4
  refine Ar.fit (by omega) ?_
  exact LE_pr ⟨fun h => ⟨⟨h1, h2⟩, ⟨h3, h4⟩, h⟩, fun h => h.2.2⟩

theorem c_pvalid' (p : Pix) : CallsG Try.prog 34 [.agg (pixE p)] [] (pr (pxOK p)) [] := by
  refine calls_to tok mix Try.func34 rfl rfl rfl ?_
  refine Br.mk (fun h1 => ?_) (fun h1 => LE_false (fun h => h1 h.1))
  refine Br.mk (fun h2 => ?_) (fun h2 => LE_false (fun h => h2 h.2.1))
  exact LE_pr ⟨fun h => ⟨h1, h2, h⟩, fun h => h.2.2⟩

theorem c_valid' (m : Img) : CallsG Try.prog 19 [.agg (imgE m)] [] (pr (imgOK m)) [] := by
  refine calls_to tok mix Try.func19 rfl rfl rfl ?_
  refine CallV.to _ (c_size m.w m.h) rfl ?_
  refine Br.mk (fun h1 => LE_false (fun h => h1 ⟨h.1, h.2.1, h.2.2.1⟩)) (fun h1 => ?_)
  have h1 := Decidable.not_not.1 h1
  have hm := mul_r (show 0 ≤ m.w by omega) h1.1.2 (show 0 ≤ m.h by omega) h1.2.1.2
  intro hl0
  refine Ar.fit (by omega) ?_
  refine Br.mk (fun h4 => LE_false (fun h => h4 h.2.2.2.1)) (fun h4 => ?_)
  have h4 := Decidable.not_not.1 h4
  refine ⟨Int, fun i => ⟨[(3, i64 i), (1, .loc 0 0)], [(0, .box 28 (imgE m))], 1, 35, 0⟩, fun i => 0 ≤ i ∧ i ≤ m.px.length ∧ ∀ (j : Nat) q, (j : Int) < i → m.px[j]? = some q → pxOK q, fun i => ((m.px.length : Int) - i).toNat, 0, ?_, ?_, ?_⟩
  · exact ⟨by omega, by omega, fun j q hj => by omega⟩
  · exact sub_of [(0, some 0)] rfl rfl rfl ⟨rfl, rfl, trivial⟩ ⟨rfl, trivial⟩
  rintro i ⟨g1, g2, g3⟩
  intro hl1
  refine Br.mk (fun g4 => ?_) (fun g4 => ?_)
  · refine Ob.mk (by omega) ?_
    intro x hx
    refine CallV.to _ (c_pvalid' x) rfl ?_
    refine Br.mk (fun g5 => ?_) (fun g5 => ?_)
    · exact LE_false fun h => g5 (h.2.2.2.2 x (List.mem_of_getElem? hx))
    · refine Ar.fit (by omega) ?_
      refine ⟨i + 1, ⟨by omega, by omega, fun j q hj hq => ?_⟩, sub_of [(0, some 0)] rfl rfl rfl ⟨rfl, rfl, trivial⟩ ⟨rfl, trivial⟩, by dsimp only; omega⟩
      by_cases e : j = i.toNat
      · subst e; rw [hx] at hq; cases hq; exact Decidable.not_not.1 g5
      · exact g3 j q (by omega) hq
  · refine LE_true ⟨h1.1, h1.2.1, h1.2.2, h4, fun p hp => ?_⟩
    obtain ⟨j, hj, he⟩ := List.getElem_of_mem hp
    exact g3 j p (by omega) (by rw [← he]; exact List.getElem?_eq_getElem hj)

theorem pix_eq {p q : Pix} : (p.r = q.r ∧ p.g = q.g ∧ p.b = q.b ∧ p.a = q.a ∧ True) ↔ p = q := by
  cases p; cases q; simp

theorem list_eq {xs ys : List Pix} {i : Int} (hl : (xs.length : Int) = ys.length) (hi : ¬ i < xs.length) (h : ∀ j : Nat, (j : Int) < i → xs[j]? = ys[j]?) : xs = ys := by
  refine List.ext_getElem? fun j => ?_
  by_cases hj : (j : Int) < i
  · exact h j hj
  · rw [List.getElem?_eq_none (by omega), List.getElem?_eq_none (by omega)]

theorem c_equal' (m n : Img) : CallsG Try.prog 17 [.agg (imgE m), .agg (imgE n)] [] (pr (m = n)) [] := by
  refine calls_to tok mix Try.func17 rfl rfl rfl ?_
  refine Br.mk (fun h1 => LE_false fun e => h1 (by rw [e])) (fun h1 => ?_)
  refine Br.mk (fun h2 => LE_false fun e => h2 (by rw [e])) (fun h2 => ?_)
  intro hl1 hl2
  refine Br.mk (fun h3 => LE_false fun e => h3 (by rw [e])) (fun h3 => ?_)
  refine ⟨Int, fun i => ⟨[(5, i64 i), (2, .loc 0 0), (3, .loc 1 0)], [(1, .box 28 (imgE n)), (0, .box 28 (imgE m))], 2, 45, 0⟩, fun i => 0 ≤ i ∧ i ≤ m.px.length ∧ ∀ j : Nat, (j : Int) < i → m.px[j]? = n.px[j]?, fun i => ((m.px.length : Int) - i).toNat, 0, ?_, ?_, ?_⟩
  · exact ⟨by omega, by omega, fun j hj => by omega⟩
  · exact sub_of [(0, some 0), (1, some 1)] rfl rfl rfl ⟨rfl, rfl, rfl, trivial⟩ ⟨rfl, rfl, trivial⟩
  rintro i ⟨h4, h5, h6⟩
  intro hl3
  refine Br.mk (fun h7 => ?_) (fun h7 => ?_)
  · refine Dr.mk (by decide +kernel) ?_
    refine Ob.mk (by omega) ?_
    intro x hx
    refine Ob.mk (by omega) ?_
    intro y hy
    refine Br.mk (fun h8 => ?_) (fun h8 => ?_)
    · refine LE_false fun e => h8 (pix_eq.2 ?_)
      subst e
      rw [hx] at hy; exact Option.some.inj hy
    · refine Ar.fit (by omega) ?_
      refine ⟨i + 1, ⟨by omega, by omega, fun j hj => ?_⟩, sub_of [(0, some 0), (1, some 1)] rfl rfl rfl ⟨rfl, rfl, rfl, trivial⟩ ⟨rfl, rfl, trivial⟩, by dsimp only; omega⟩
      by_cases e : j = i.toNat
      · subst e; rw [hx, hy, pix_eq.1 (Decidable.not_not.1 h8)]
      · exact h6 j (by omega)
  · refine LE_true ?_
    have e1 := Decidable.not_not.1 h1
    have e2 := Decidable.not_not.1 h2
    have e3 := list_eq (Decidable.not_not.1 h3) h7 h6
    cases m; cases n
    simp_all

theorem c_seq (xs ys : List Pix) : CallsG Try.prog 44 [.sl pixE xs, .sl pixE ys] [] (pr (xs = ys)) [] := by
  refine calls_to tok mix Try.func44 rfl rfl rfl ?_
  intro hl1 hl2
  refine Br.mk (fun h1 => LE_false fun e => h1 (by rw [e])) (fun h1 => ?_)
  have h1 := Decidable.not_not.1 h1
  intro hl3
  refine ⟨Int, fun i => ⟨[(13, i64 i), (12, i64 xs.length), (0, .sl pixE xs), (1, .sl pixE ys)], [], 0, 26, 0⟩, fun i => 0 ≤ i ∧ i ≤ xs.length ∧ ∀ j : Nat, (j : Int) < i → xs[j]? = ys[j]?, fun i => ((xs.length : Int) - i).toNat, 0, ?_, ?_, ?_⟩
  · exact ⟨by omega, by omega, fun j hj => by omega⟩
  · exact sub_of [] rfl rfl rfl ⟨rfl, rfl, rfl, rfl, trivial⟩ trivial
  rintro i ⟨h4, h5, h6⟩
  refine Br.mk (fun h7 => ?_) (fun h7 => ?_)
  · refine Dr.mk (by decide +kernel) ?_
    refine Ob.mk (by omega) ?_
    intro x hx
    refine Ob.mk (by omega) ?_
    intro y hy
    refine Br.mk (fun h8 => ?_) (fun h8 => ?_)
    · refine LE_false fun e => h8 (pix_eq.2 ?_)
      subst e
      rw [hx] at hy; exact Option.some.inj hy
    · refine Ar.fit (by omega) ?_
      refine ⟨i + 1, ⟨by omega, by omega, fun j hj => ?_⟩, sub_of [] rfl rfl rfl ⟨rfl, rfl, rfl, rfl, trivial⟩ trivial, by dsimp only; omega⟩
      by_cases e : j = i.toNat
      · subst e; rw [hx, hy, pix_eq.1 (Decidable.not_not.1 h8)]
      · exact h6 j (by omega)
  · exact LE_true (list_eq h1 h7 h6)

theorem c_equal (m n : Img) : CallsG Try.prog 20 [.agg (imgE m), .agg (imgE n)] [] (pr (m = n)) [] := by
  refine calls_to tok mix Try.func20 rfl rfl rfl ?_
  refine Br.mk (fun h1 => ?_) (fun h1 => LE_false fun e => h1 (by rw [e]))
  refine Br.mk (fun h2 => ?_) (fun h2 => LE_false fun e => h2 (by rw [e]))
  refine CallV.to _ (c_seq m.px n.px) rfl ?_
  refine LE_pr ⟨fun h => ?_, fun h => by rw [h]⟩
  cases m; cases n; simp_all

theorem c_small (m : Img) : CallsG Try.prog 14 [.agg (imgE m)] [] (pr ((m.px.length : Int) ≤ 2000)) [] := by
  refine calls_to tok mix Try.func14 rfl rfl rfl ?_
  intro _
  exact LE_pr Iff.rfl

end Go.Gs
