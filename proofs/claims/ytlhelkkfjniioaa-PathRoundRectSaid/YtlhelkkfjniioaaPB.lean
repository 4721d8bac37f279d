/- Segments that may be, the other text; paths that are the same. -/
import Derived.Test.YtlhelkkfjniioaaPA
namespace Go.Gs
open Go.Proofs

theorem c_named' (v : Int) : CallsG Try.prog 58 [i64 v] [] (i64 (nm v)) [] := by
  refine calls_to tok mix Try.func58 rfl rfl rfl ?_
  refine Br.mk (fun h1 => ?_) (fun h1 => ?_)
  · refine Br.mk (fun _ => ?_) (fun h => absurd h1 h)
    exact LE_int (by rw [h1]; rfl)
  refine Br.mk (fun h2 => LE_int (by rw [h2]; rfl)) (fun h2 => ?_)
  refine Br.mk (fun h3 => LE_int (by rw [h3]; rfl)) (fun h3 => ?_)
  refine Br.mk (fun h4 => LE_int (by rw [h4]; rfl)) (fun h4 => ?_)
  refine Br.mk (fun h5 => LE_int (by rw [h5]; rfl)) (fun h5 => ?_)
  exact LE_int (by unfold nm; rw [if_neg h1, if_neg h2, if_neg h3, if_neg h4, if_neg h5])

theorem c_three (s : Sg) : CallsG Try.prog 57 [.agg (sgE s)] [] (.agg (ptE s.a ++ ptE s.b ++ ptE s.c)) [] := by
  refine calls_to tok mix Try.func57 rfl rfl rfl ?_
  exact .refl

theorem c_pvalid' (p : Pt) : CallsG Try.prog 77 [.agg (ptE p)] [] (pr (ptOK p)) [] := by
  refine calls_to tok mix Try.func77 rfl rfl rfl ?_
  refine Br.mk (fun h1 => ?_) (fun h1 => LE_false (fun h => h1 h.1.1))
  refine Br.mk (fun h2 => ?_) (fun h2 => LE_false (fun h => h2 h.1.2))
  refine Br.mk (fun h3 => ?_) (fun h3 => LE_false (fun h => h3 h.2.1))
  exact LE_pr ⟨fun h4 => ⟨⟨h1, h2⟩, ⟨h3, h4⟩⟩, fun h => h.2.2⟩

/-- The verb ahead of place 'i'. -/
def lastAt (l : List Sg) (i : Nat) : Int := if i = 0 then 5 else (l[i - 1]?.map Sg.v).getD 0

theorem c_stands' (l : List Sg) (i : Nat) (x : Sg) (hx : l[i]? = some x) (hl : l.length ≤ 256) : CallsG Try.prog 76 [.sl sgE l, i64 i] [] (pr (stands (lastAt l i) x.v)) [] := by
  refine calls_to tok mix Try.func76 rfl rfl rfl ?_
  have hi : i < l.length := (List.getElem?_eq_some_iff.1 hx).1
  refine Br.mk (fun h1 => ?_) (fun h1 => ?_)
  · have h0 : i = 0 := by omega
    subst h0
    refine Ob.mk ⟨by omega, by omega⟩ ?_
    intro y hy
    have hy : l[0]? = some y := hy
    rw [hx] at hy; cases hy
    refine LE_pr ⟨fun h => .inl h, fun h => ?_⟩
    rcases h with h | ⟨h, _⟩
    · exact h
    · exact absurd rfl h
  refine Ar.fit (by omega) ?_
  refine Ob.mk ⟨by omega, by omega⟩ ?_
  intro y hy
  have hy : l[i - 1]? = some y := by rw [← hy]; congr 1; omega
  have hlast : lastAt l i = y.v := by unfold lastAt; rw [if_neg (by omega), hy]; rfl
  rw [hlast]
  refine Br.mk (fun h2 => ?_) (fun h2 => ?_)
  · refine Ob.mk ⟨by omega, by omega⟩ ?_
    intro z hz
    have hz : l[i]? = some z := hz
    rw [hx] at hz; cases hz
    refine LE_pr ⟨fun h => .inl h, fun h => ?_⟩
    rcases h with h | ⟨h, _⟩
    · exact h
    · exact absurd h2 h
  · refine Ob.mk ⟨by omega, by omega⟩ ?_
    intro z hz
    have hz : l[i]? = some z := hz
    rw [hx] at hz; cases hz
    refine Br.mk (fun h3 => ?_) (fun h3 => ?_)
    · exact LE_true (.inr ⟨h2, .inl h3⟩)
    · refine Ar.fit (by omega) ?_
      refine Ob.mk ⟨by omega, by omega⟩ ?_
      intro u hu
      have hu : l[i - 1]? = some u := by rw [← hu]; congr 1; omega
      rw [hy] at hu; cases hu
      refine LE_pr ⟨fun h => .inr ⟨h2, .inr h⟩, fun h => ?_⟩
      have h3 : x.v = 5 := Decidable.not_not.1 h3
      rcases h with h | ⟨_, h | h⟩
      · omega
      · exact absurd h3 h
      · exact h

theorem c_wrong (l : List Sg) (i : Nat) (x : Sg) (hx : l[i]? = some x) (hl : l.length ≤ 256) : CallsG Try.prog 46 [.sl sgE l, i64 i] [] (i64 (errAt (lastAt l i) x)) [] := by
  refine calls_to tok mix Try.func46 rfl rfl rfl ?_
  have hi : i < l.length := (List.getElem?_eq_some_iff.1 hx).1
  refine Ob.mk ⟨by omega, by omega⟩ ?_
  intro y hy
  have hy : l[i]? = some y := hy
  rw [hx] at hy; cases hy
  refine CallV.to _ (c_named' x.v) rfl ?_
  refine Br.mk (fun h1 => LE_int (by unfold errAt; rw [if_pos h1])) (fun h1 => ?_)
  refine CallV.to _ (c_stands' l i x hx hl) rfl ?_
  refine Br.mk (fun h2 => LE_int (by unfold errAt; rw [if_neg h1, if_pos h2])) (fun h2 => ?_)
  refine Ob.mk ⟨by omega, by omega⟩ ?_
  intro y hy
  have hy : l[i]? = some y := hy
  rw [hx] at hy; cases hy
  refine CallV.to _ (c_three x) rfl ?_
  have bad : ¬ fits x → LE (i64 6) (i64 (errAt (lastAt l i) x)) := fun h => LE_int (by unfold errAt; rw [if_neg h1, if_neg h2, if_pos h])
  have hn : 0 ≤ nm x.v := by omega
  have zOK : ptOK zp := by decide
  refine ⟨Nat, fun k => ⟨[(7, i64 k), (5, i64 (nm x.v)), (6, .loc 0 0)], [(0, .box 77 (ptE x.a ++ ptE x.b ++ ptE x.c))], 1, 51, 0⟩,
    fun k => k ≤ 3 ∧ (1 ≤ k → pk (nm x.v) 0 x.a) ∧ (2 ≤ k → pk (nm x.v) 1 x.b) ∧ (3 ≤ k → pk (nm x.v) 2 x.c), fun k => 3 - k, 0, ?_, ?_, ?_⟩
  · exact ⟨by omega, fun h => by omega, fun h => by omega, fun h => by omega⟩
  · exact sub_of [(0, some 0)] rfl rfl rfl ⟨rfl, rfl, rfl, trivial⟩ ⟨rfl, trivial⟩
  rintro k ⟨k1, k2, k3, k4⟩
  refine Br.mk (fun g1 => ?_) (fun g1 => ?_)
  · have g1 : (k : Int) < 3 := g1
    have hk : k = 0 ∨ k = 1 ∨ k = 2 := by omega
    rcases hk with rfl | rfl | rfl
    · refine Br.mk (fun a1 => ?_) (fun a1 => ?_)
      · refine CallV.to _ (c_pvalid' x.a) rfl ?_
        refine Br.mk (fun a2 => bad (fun h => a2 h.1.1)) (fun a2 => ?_)
        have a2 : ptOK x.a := Decidable.not_not.1 a2
        refine Br.mk (fun a3 => absurd a3 (by omega)) (fun a3 => ?_)
        refine Ar.fit (by omega) ?_
        exact ⟨1, ⟨by omega, fun _ => ⟨a2, fun h => absurd h (by omega)⟩, fun h => by omega, fun h => by omega⟩, sub_of [(0, some 0)] rfl rfl rfl ⟨rfl, rfl, rfl, trivial⟩ ⟨rfl, trivial⟩, by dsimp only; omega⟩
      · refine Br.mk (fun a3 => ?_) (fun a3 => absurd a3 (by omega))
        refine Br.mk (fun a4 => bad (fun h => a4 (pt_eq.2 (h.1.2 (by omega))))) (fun a4 => ?_)
        have a4 : x.a = zp := pt_eq.1 (Decidable.not_not.1 a4)
        refine Ar.fit (by omega) ?_
        exact ⟨1, ⟨by omega, fun _ => ⟨a4 ▸ zOK, fun _ => a4⟩, fun h => by omega, fun h => by omega⟩, sub_of [(0, some 0)] rfl rfl rfl ⟨rfl, rfl, rfl, trivial⟩ ⟨rfl, trivial⟩, by dsimp only; omega⟩
    · refine Br.mk (fun a1 => ?_) (fun a1 => ?_)
      · refine CallV.to _ (c_pvalid' x.b) rfl ?_
        refine Br.mk (fun a2 => bad (fun h => a2 h.2.1.1)) (fun a2 => ?_)
        have a2 : ptOK x.b := Decidable.not_not.1 a2
        refine Br.mk (fun a3 => absurd a3 (by omega)) (fun a3 => ?_)
        refine Ar.fit (by omega) ?_
        exact ⟨2, ⟨by omega, fun _ => k2 (by omega), fun _ => ⟨a2, fun h => absurd h (by omega)⟩, fun h => by omega⟩, sub_of [(0, some 0)] rfl rfl rfl ⟨rfl, rfl, rfl, trivial⟩ ⟨rfl, trivial⟩, by dsimp only; omega⟩
      · refine Br.mk (fun a3 => ?_) (fun a3 => absurd a3 (by omega))
        refine Br.mk (fun a4 => bad (fun h => a4 (pt_eq.2 (h.2.1.2 (by omega))))) (fun a4 => ?_)
        have a4 : x.b = zp := pt_eq.1 (Decidable.not_not.1 a4)
        refine Ar.fit (by omega) ?_
        exact ⟨2, ⟨by omega, fun _ => k2 (by omega), fun _ => ⟨a4 ▸ zOK, fun _ => a4⟩, fun h => by omega⟩, sub_of [(0, some 0)] rfl rfl rfl ⟨rfl, rfl, rfl, trivial⟩ ⟨rfl, trivial⟩, by dsimp only; omega⟩
    · refine Br.mk (fun a1 => ?_) (fun a1 => ?_)
      · refine CallV.to _ (c_pvalid' x.c) rfl ?_
        refine Br.mk (fun a2 => bad (fun h => a2 h.2.2.1)) (fun a2 => ?_)
        have a2 : ptOK x.c := Decidable.not_not.1 a2
        refine Br.mk (fun a3 => absurd a3 (by omega)) (fun a3 => ?_)
        refine Ar.fit (by omega) ?_
        exact ⟨3, ⟨by omega, fun _ => k2 (by omega), fun _ => k3 (by omega), fun _ => ⟨a2, fun h => absurd h (by omega)⟩⟩, sub_of [(0, some 0)] rfl rfl rfl ⟨rfl, rfl, rfl, trivial⟩ ⟨rfl, trivial⟩, by dsimp only; omega⟩
      · refine Br.mk (fun a3 => ?_) (fun a3 => absurd a3 (by omega))
        refine Br.mk (fun a4 => bad (fun h => a4 (pt_eq.2 (h.2.2.2 (by omega))))) (fun a4 => ?_)
        have a4 : x.c = zp := pt_eq.1 (Decidable.not_not.1 a4)
        refine Ar.fit (by omega) ?_
        exact ⟨3, ⟨by omega, fun _ => k2 (by omega), fun _ => k3 (by omega), fun _ => ⟨a4 ▸ zOK, fun _ => a4⟩⟩, sub_of [(0, some 0)] rfl rfl rfl ⟨rfl, rfl, rfl, trivial⟩ ⟨rfl, trivial⟩, by dsimp only; omega⟩
  · have h3 : k = 3 := by have g1 : ¬ (k : Int) < 3 := g1; omega
    subst h3
    exact LE_int (by unfold errAt; rw [if_neg h1, if_neg h2, if_neg (fun h => h ⟨k2 (by omega), k3 (by omega), k4 (by omega)⟩)])

theorem lastAt_succ {l : List Sg} {i : Nat} {x : Sg} (h : l[i]? = some x) : lastAt l (i + 1) = x.v := by
  unfold lastAt; rw [if_neg (by omega), Nat.add_sub_cancel, h]; rfl

theorem c_check' (l : List Sg) : CallsG Try.prog 17 [.sl sgE l] [] (twoI (check l)) [] := by
  refine calls_to tok mix Try.func17 rfl rfl rfl ?_
  have fin : ∀ {a b : Int}, check l = (a, b) → LE (.tup [i64 a, i64 b]) (twoI (check l)) := fun h => by rw [h]; exact .refl
  intro hl
  refine Br.mk (fun h => fin (by unfold check; rw [if_pos (by omega)])) (fun h => ?_)
  have hc : check l = chk 5 0 l := by unfold check; rw [if_neg (by omega)]
  refine ⟨Nat, fun i => ⟨[(4, i64 i), (0, .sl sgE l)], [], 0, 22, 0⟩, fun i => i ≤ l.length ∧ chk 5 0 l = chk (lastAt l i) i (l.drop i), fun i => l.length - i, 0, ?_, ?_, ?_⟩
  · exact ⟨Nat.zero_le _, rfl⟩
  · exact sub_of [] rfl rfl rfl ⟨rfl, rfl, trivial⟩ trivial
  rintro i ⟨h1, h2⟩
  intro hl1
  refine Br.mk (fun h3 => ?_) (fun h3 => ?_)
  · have hx := List.getElem?_eq_getElem (show i < l.length by omega)
    generalize l[i]'(by omega) = x at hx
    rw [drop_at hx] at h2
    refine CallV.to _ (c_wrong l i x hx (by omega)) rfl ?_
    refine Br.mk (fun h4 => fin ?_) (fun h4 => ?_)
    · rw [hc, h2]; unfold chk; rw [if_pos h4]
    · refine Ar.fit (by omega) ?_
      refine ⟨i + 1, ⟨by omega, ?_⟩, sub_of [] rfl rfl rfl ⟨rfl, rfl, trivial⟩ trivial, by dsimp only; omega⟩
      rw [h2, lastAt_succ hx]; conv => lhs; unfold chk
      rw [if_neg h4]
  · refine fin (hc.trans (h2.trans ?_))
    rw [List.drop_eq_nil_of_le (by omega)]; rfl

theorem c_valid' (l : List Sg) : CallsG Try.prog 43 [.sl sgE l] [] (pr (valid l)) [] := by
  refine calls_to tok mix Try.func43 rfl rfl rfl ?_
  refine CallV.to _ (c_check' l) rfl ?_
  exact LE_pr Iff.rfl

theorem slist_eq {xs ys : List Sg} {i : Int} (hl : (xs.length : Int) = ys.length) (hi : ¬ i < xs.length) (h : ∀ j : Nat, (j : Int) < i → xs[j]? = ys[j]?) : xs = ys := by
  refine List.ext_getElem? fun j => ?_
  by_cases hj : (j : Int) < i
  · exact h j hj
  · rw [List.getElem?_eq_none (by omega), List.getElem?_eq_none (by omega)]

theorem c_seq (xs ys : List Sg) : CallsG Try.prog 48 [.sl sgE xs, .sl sgE ys] [] (pr (xs = ys)) [] := by
  refine calls_to tok mix Try.func48 rfl rfl rfl ?_
  intro hl1 hl2
  refine Br.mk (fun h1 => LE_false fun e => h1 (by rw [e])) (fun h1 => ?_)
  have h1 := Decidable.not_not.1 h1
  intro hl3
  refine ⟨Int, fun i => ⟨[(13, i64 i), (12, i64 xs.length), (0, .sl sgE xs), (1, .sl sgE ys)], [], 0, 26, 0⟩, fun i => 0 ≤ i ∧ i ≤ xs.length ∧ ∀ j : Nat, (j : Int) < i → xs[j]? = ys[j]?, fun i => ((xs.length : Int) - i).toNat, 0, ?_, ?_, ?_⟩
  · exact ⟨by omega, by omega, fun j hj => by omega⟩
  · exact sub_of [] rfl rfl rfl ⟨rfl, rfl, rfl, rfl, trivial⟩ trivial
  rintro i ⟨h4, h5, h6⟩
  refine Br.mk (fun h7 => ?_) (fun h7 => ?_)
  · refine Dr.mk (by decide +kernel) ?_
    refine Ob.mk (by omega) ?_
    intro x hx
    refine Ob.mk (by omega) ?_
    intro y hy
    refine Br.mk (fun h8 => ?_) (fun h8 => ?_)
    · refine LE_false fun e => h8 (sg_eq.2 ?_)
      subst e
      rw [hx] at hy; exact Option.some.inj hy
    · refine Ar.fit (by omega) ?_
      refine ⟨i + 1, ⟨by omega, by omega, fun j hj => ?_⟩, sub_of [] rfl rfl rfl ⟨rfl, rfl, rfl, rfl, trivial⟩ trivial, by dsimp only; omega⟩
      by_cases e : j = i.toNat
      · subst e; rw [hx, hy, sg_eq.1 (Decidable.not_not.1 h8)]
      · exact h6 j (by omega)
  · exact LE_true (slist_eq h1 h7 h6)

theorem c_equal (xs ys : List Sg) : CallsG Try.prog 21 [.sl sgE xs, .sl sgE ys] [] (pr (xs = ys)) [] := by
  refine calls_to tok mix Try.func21 rfl rfl rfl ?_
  refine CallV.to _ (c_seq xs ys) rfl ?_
  exact LE_pr Iff.rfl

theorem c_equal' (xs ys : List Sg) : CallsG Try.prog 22 [.sl sgE xs, .sl sgE ys] [] (pr (xs = ys)) [] := by
  refine calls_to tok mix Try.func22 rfl rfl rfl ?_
  intro hl1 hl2
  refine Br.mk (fun h1 => LE_false fun e => h1 (by rw [e])) (fun h1 => ?_)
  have h1 := Decidable.not_not.1 h1
  refine ⟨Int, fun i => ⟨[(5, i64 i), (0, .sl sgE xs), (1, .sl sgE ys)], [], 0, 26, 0⟩, fun i => 0 ≤ i ∧ i ≤ xs.length ∧ ∀ j : Nat, (j : Int) < i → xs[j]? = ys[j]?, fun i => ((xs.length : Int) - i).toNat, 0, ?_, ?_, ?_⟩
  · exact ⟨by omega, by omega, fun j hj => by omega⟩
  · exact sub_of [] rfl rfl rfl ⟨rfl, rfl, rfl, trivial⟩ trivial
  rintro i ⟨h4, h5, h6⟩
  intro hl3
  refine Br.mk (fun h7 => ?_) (fun h7 => ?_)
  · refine Dr.mk (by decide +kernel) ?_
    refine Ob.mk (by omega) ?_
    intro x hx
    refine Ob.mk (by omega) ?_
    intro y hy
    refine Br.mk (fun h8 => ?_) (fun h8 => ?_)
    · refine LE_false fun e => h8 (sg_eq.2 ?_)
      subst e
      rw [hx] at hy; exact Option.some.inj hy
    · refine Ar.fit (by omega) ?_
      refine ⟨i + 1, ⟨by omega, by omega, fun j hj => ?_⟩, sub_of [] rfl rfl rfl ⟨rfl, rfl, rfl, trivial⟩ trivial, by dsimp only; omega⟩
      by_cases e : j = i.toNat
      · subst e; rw [hx, hy, sg_eq.1 (Decidable.not_not.1 h8)]
      · exact h6 j (by omega)
  · exact LE_true (slist_eq h1 h7 h6)

end Go.Gs
