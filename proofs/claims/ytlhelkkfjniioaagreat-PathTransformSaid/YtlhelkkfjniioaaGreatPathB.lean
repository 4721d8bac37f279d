/- A path in its subpaths. -/
import Derived.Test.YtlhelkkfjniioaaGreatPathA
namespace Go.Gs
open Go.Proofs

def addSub (out : List (List Sg)) (s : Sg) : List (List Sg) := if s.v = 1 then out ++ [[s]] else out.dropLast ++ [out.getLastD [] ++ [s]]
def subs (l : List Sg) : List (List Sg) := l.foldl addSub []
theorem subs_take {l : List Sg} {i : Nat} {x : Sg} (h : l[i]? = some x) : subs (l.take (i + 1)) = addSub (subs (l.take i)) x := by
  unfold subs
  rw [List.take_add_one, h]
  simp [List.foldl_append]

def slE (xs : List Sg) : List SV := [.sl sgE xs]

theorem last_at {α : Type _} {A : List α} {z y : α} {n : Nat} (h : (A ++ [z])[n]? = some y) (hn : n = A.length) : y = z := by
  subst hn
  simp at h
  exact h.symm
theorem set_last {α : Type _} {A : List α} {z w : α} {n : Nat} (hn : n = A.length) : (A ++ [z]).set n w = A ++ [w] := by
  subst hn
  simp

theorem gren {tb : List (Nat × Option Nat)} {cl : List (List Sg)} {a b : Nat} (h : nmOf tb b = some (some a)) :
    (cl.map slE ++ [[SV.own a]]).length = (cl.map slE ++ [[SV.own b]]).length ∧ ∀ (i : Nat) x, (cl.map slE ++ [[SV.own b]])[i]? = some x → ∃ x', (cl.map slE ++ [[SV.own a]])[i]? = some x' ∧ ren.rens tb x = some x' := by
  refine ⟨by simp, fun i x hx => ?_⟩
  rw [List.getElem?_append] at hx
  split at hx
  · rename_i hi
    rw [List.getElem?_map] at hx
    cases hy : cl[i]? with
    | none => simp [hy] at hx
    | some y =>
      simp [hy] at hx; subst hx
      exact ⟨slE y, by rw [List.getElem?_append_left hi, List.getElem?_map, hy]; rfl, rfl⟩
  · rename_i hi
    have h0 : i - (cl.map slE).length = 0 := by
      have := (List.getElem?_eq_some_iff.1 hx).1
      simp at this; simp at hi ⊢; omega
    rw [h0] at hx
    simp at hx; subst hx
    refine ⟨[.own a], by rw [List.getElem?_append_right (by omega), h0]; rfl, ?_⟩
    simp only [ren.rens, ren, h]

theorem frz_tail {cl : List (List Sg)} {last : List Sg} {a : Nat} (T : List (List SV)) :
    ∀ (i j : Nat) (x' : List SV) (s' : SV), ((cl ++ [last]).map slE ++ T)[i]? = some x' → x'[j]? = some s' → ∃ (x : List SV) (s : SV), (cl.map slE ++ [[SV.own a]] ++ T)[i]? = some x ∧ x[j]? = some s ∧ (s' = s ∨ (s = .own a ∧ s' = .sl sgE last)) := by
  intro i j x' s' hx hs
  rw [List.map_append] at hx
  have e : ∀ (L : List (List SV)), L = cl.map slE → ((L ++ [last].map slE) ++ T)[i]? = some x' → ∃ (x : List SV) (s : SV), (L ++ [[SV.own a]] ++ T)[i]? = some x ∧ x[j]? = some s ∧ (s' = s ∨ (s = .own a ∧ s' = .sl sgE last)) := by
    intro L _ hx
    rcases Nat.lt_trichotomy i L.length with h | h | h
    · rw [List.append_assoc, List.getElem?_append_left h] at hx
      exact ⟨x', s', by rw [List.append_assoc, List.getElem?_append_left h]; exact hx, hs, .inl rfl⟩
    · subst h
      rw [List.append_assoc, List.getElem?_append_right (Nat.le_refl _)] at hx
      simp at hx; subst hx
      cases j with
      | zero => simp [slE] at hs; subst hs; exact ⟨[.own a], .own a, by simp, rfl, .inr ⟨rfl, rfl⟩⟩
      | succ j => simp [slE] at hs
    · rw [List.getElem?_append_right (by simp; omega)] at hx
      refine ⟨x', s', ?_, hs, .inl rfl⟩
      rw [List.getElem?_append_right (by simp; omega)]
      rw [← hx]; congr 1; simp
  exact e _ rfl hx

set_option maxRecDepth 100000 in
theorem c_subpaths (l : List Sg) (h0 : ∀ x, l[0]? = some x → x.v = 1) (hlen : l.length ≤ 256) :
    CallsG Tryz.prog 23 [.sl sgE l] [] (.own 0) [(0, .arr 22 slE 1 (subs l))] := by
  refine calls_own_sub tok mix Tryz.func23 rfl rfl rfl ?_
  intro hl
  refine ⟨Nat × Option (List (List Sg) × List Sg), fun q => match q with
      | (i, none) => ⟨[(8, i64 i), (7, i64 l.length), (6, .sl sgE l), (3, .val (.slice none 0 0))], [], 0, 34, 0⟩
      | (i, some (cl, last)) => ⟨[(8, i64 i), (7, i64 l.length), (6, .sl sgE l), (3, .own 0)], [(0, .garr 22 1 (cl.map slE ++ [[.own 1]])), (1, .arr 44 sgE 7 last)], 2, 34, 0⟩,
    fun q => match q with
      | (i, none) => i = 0
      | (i, some (cl, last)) => i ≤ l.length ∧ subs (l.take i) = cl ++ [last] ∧ cl.length < i ∧ last.length ≤ i, fun q => l.length - q.1, (0, none), rfl, ?_, ?_⟩
  · exact sub_of [] rfl rfl rfl ⟨rfl, rfl, rfl, rfl, trivial⟩ trivial
  rintro ⟨i, _ | ⟨cl, last⟩⟩ hI
  · have hI : i = 0 := hI
    subst hI
    refine Br.mk (fun h1 => ?_) (fun h1 => ?_)
    · have h1 : (0 : Int) < l.length := h1
      refine Ob.mk ⟨by decide, h1⟩ ?_
      intro x hx
      have hx : l[0]? = some x := hx
      refine Br.mk (fun _ => ?_) (fun h => absurd (h0 x hx) h)
      refine ⟨Unit, fun _ => [.val (.slice none 0 0)], [()], rfl, Ob.mk ⟨rfl, by decide, by decide, by decide, fun x _ => ⟨rfl, rfl, rfl⟩⟩ ?_⟩
      refine ⟨_, _, _, rfl, Ob.mk ⟨by decide, by decide, by decide, fun _ _ => rfl⟩ ?_⟩
      refine Dr.dyn (Ob.mk (by decide +kernel) ?_)
      intro _
      refine Ar.fit (by decide) ?_
      intro _
      refine Ar.fit (by decide) ?_
      refine Ob.mk (by decide) ?_
      refine Ob.mk (by decide) ?_
      intro y hy
      refine ⟨Sg, sgE, [x], rfl, Ob.mk ⟨rfl, by decide, by decide, by decide, fun x _ => ⟨rfl, rfl, rfl⟩⟩ ?_⟩
      refine ⟨_, _, _, rfl, Ob.mk ⟨(by show ((1 : Nat) : Int) * (56 : Int) ≤ 140737488355328; decide), (by show 1 ≤ 281474976710656; decide), by decide, fun _ _ => rfl⟩ ?_⟩
      refine Ob.mk (by decide) ?_
      refine Ob.mk (by decide) ?_
      intro y' hy'
      refine Ob.mk (by kernel_rfl) ?_
      refine Ar.fit (by decide) ?_
      refine ⟨(1, some ([], [x])), ⟨by omega, ?_, by decide, Nat.le_refl _⟩, sub_of [(0, some 2), (1, some 4)] rfl rfl rfl ⟨rfl, rfl, rfl, rfl, trivial⟩ ⟨⟨_, rfl, gren (cl := []) rfl⟩, rfl, trivial⟩, by show l.length - 1 < l.length - 0; omega⟩
      have := subs_take hx
      rw [this]; unfold addSub; rw [if_pos (h0 x hx)]; rfl
    · have h1 : ¬ (0 : Int) < l.length := h1
      have hl0 : l = [] := List.eq_nil_of_length_eq_zero (by omega)
      exact ⟨_, .refl, none, .nil rfl, by rw [hl0]; rfl⟩
  · obtain ⟨k1, k2, k3, k4⟩ : i ≤ l.length ∧ subs (l.take i) = cl ++ [last] ∧ cl.length < i ∧ last.length ≤ i := hI
    refine Br.mk (fun h1 => ?_) (fun h1 => ?_)
    · have h1 : (i : Int) < l.length := h1
      refine Ob.mk ⟨by omega, h1⟩ ?_
      intro x hx
      have hx : l[i]? = some x := hx
      have hsu := subs_take hx
      rw [k2] at hsu
      refine Br.mk (fun hv => ?_) (fun hv => ?_)
      · refine ⟨Unit, fun _ => [.val (.slice none 0 0)], [()], rfl, Ob.mk ⟨rfl, by decide, by decide, by decide, fun x _ => ⟨rfl, rfl, rfl⟩⟩ ?_⟩
        refine ⟨_, _, _, rfl, Ob.mk ⟨(by simp only [List.length_append, List.length_map, List.length_cons, List.length_nil]; show _ * (24 : Int) ≤ _; omega), (by simp only [List.length_append, List.length_map, List.length_cons, List.length_nil]; omega), by decide, fun _ _ => rfl⟩ ?_⟩
        generalize hA : cl.map slE ++ [[SV.own 1]] = A
        have hAl : A.length = cl.length + 1 := by rw [← hA]; simp
        refine Dr.dyn (Ob.mk (by decide +kernel) ?_)
        intro _
        refine Ar.fit (by simp only [List.length_append, List.length_map, List.length_cons, List.length_nil]; omega) ?_
        intro _
        refine Ar.fit (by simp only [List.length_append, List.length_map, List.length_cons, List.length_nil]; omega) ?_
        refine Ob.mk (by simp only [List.length_append, List.length_map, List.length_cons, List.length_nil]; omega) ?_
        refine Ob.mk (by simp only [List.length_append, List.length_map, List.length_cons, List.length_nil]; omega) ?_
        intro y hy
        have hn : (((A ++ [()].map fun _ => [SV.val (.slice none 0 0)]).length : Int) - 1).toNat = A.length := by simp only [List.length_append, List.length_map, List.length_cons, List.length_nil]; omega
        obtain rfl := last_at (A := A) (z := [SV.val (.slice none 0 0)]) hy hn
        refine ⟨Sg, sgE, [x], rfl, Ob.mk ⟨rfl, by decide, by decide, by decide, fun x _ => ⟨rfl, rfl, rfl⟩⟩ ?_⟩
        refine ⟨_, _, _, rfl, Ob.mk ⟨(by show ((1 : Nat) : Int) * (56 : Int) ≤ 140737488355328; decide), (by show 1 ≤ 281474976710656; decide), by decide, fun _ _ => rfl⟩ ?_⟩
        refine Ob.mk (by simp only [List.length_append, List.length_map, List.length_cons, List.length_nil]; omega) ?_
        refine Ob.mk (by simp only [List.length_append, List.length_map, List.length_cons, List.length_nil]; omega) ?_
        intro y' hy'
        obtain rfl := last_at (A := A) (z := [SV.val (.slice none 0 0)]) hy' hn
        refine Ob.mk (by kernel_rfl) ?_
        refine Ar.fit (by omega) ?_
        have hset : (A ++ [()].map fun _ => [SV.val (.slice none 0 0)]).set (((A ++ [()].map fun _ => [SV.val (.slice none 0 0)]).length : Int) - 1).toNat [SV.own 6] = cl.map slE ++ [[SV.own 1]] ++ [[SV.own 6]] := by
          rw [hA]; exact set_last hn
        refine ⟨(i + 1, some (cl ++ [last], [x])), ⟨by omega, ?_, ?_, ?_⟩, (sub_frz (sz0 := 1) (T0 := 22) 1 4 (enc := sgE) (ys := last) rfl (by exact congrArg (fun q => some (Mem.garr 22 1 q)) hset) (xs' := (cl ++ [last]).map slE ++ [[SV.own 6]]) (by simp) (fun z hz => ?_) (frz_tail _)).trans
          (sub_of [(0, some 4), (1, some 6)] rfl rfl rfl ⟨rfl, rfl, rfl, rfl, trivial⟩ ⟨⟨_, rfl, gren rfl⟩, rfl, trivial⟩), by show l.length - (i + 1) < l.length - i; omega⟩
        · rw [hsu]; unfold addSub; rw [if_pos hv]
        · show (cl ++ [last]).length < i + 1; simp; omega
        · show 1 ≤ i + 1; omega
        · rcases List.mem_append.1 hz with hz | hz
          · obtain ⟨w, _, rfl⟩ := List.mem_map.1 hz; rfl
          · simp at hz; subst hz; rfl
      · have hAl : (cl.map slE).length = cl.length := by simp
        refine Dr.dyn (Ob.mk (by decide +kernel) ?_)
        intro _
        refine Ar.fit (by simp only [List.length_append, List.length_cons, List.length_nil]; omega) ?_
        intro _
        refine Ar.fit (by simp only [List.length_append, List.length_cons, List.length_nil]; omega) ?_
        refine Ob.mk (by simp only [List.length_append, List.length_cons, List.length_nil]; omega) ?_
        refine Ob.mk (by simp only [List.length_append, List.length_cons, List.length_nil]; omega) ?_
        intro y hy
        have hn : (((cl.map slE ++ [[SV.own 1]]).length : Int) - 1).toNat = (cl.map slE).length := by simp only [List.length_append, List.length_cons, List.length_nil]; omega
        obtain rfl := last_at hy hn
        refine ⟨Sg, sgE, [x], rfl, Ob.mk ⟨rfl, by decide, by decide, by decide, fun x _ => ⟨rfl, rfl, rfl⟩⟩ ?_⟩
        refine ⟨[x], rfl, Ob.mk ⟨(by show _ * (56 : Int) ≤ _; simp only [List.length_cons, List.length_nil]; omega), (by simp only [List.length_cons, List.length_nil]; omega), by decide, fun _ _ => rfl⟩ ?_⟩
        refine Ob.mk (by simp only [List.length_append, List.length_cons, List.length_nil]; omega) ?_
        refine Ob.mk (by simp only [List.length_append, List.length_cons, List.length_nil]; omega) ?_
        intro y' hy'
        obtain rfl := last_at hy' hn
        refine Ob.mk (by kernel_rfl) ?_
        refine Ar.fit (by omega) ?_
        have hset : (cl.map slE ++ [[SV.own 1]]).set (((cl.map slE ++ [[SV.own 1]]).length : Int) - 1).toNat [SV.own 4] = cl.map slE ++ [[SV.own 4]] := by
          exact set_last hn
        refine ⟨(i + 1, some (cl, last ++ [x])), ⟨by omega, ?_, by show cl.length < i + 1; omega, by show (last ++ [x]).length ≤ i + 1; simp; omega⟩,
          sub_of [(0, some 0), (1, some 4)] rfl rfl rfl ⟨rfl, rfl, rfl, rfl, trivial⟩ ⟨⟨_, (by exact congrArg (fun q => some (Mem.garr 22 1 q)) hset), gren rfl⟩, rfl, trivial⟩, by show l.length - (i + 1) < l.length - i; omega⟩
        rw [hsu]; unfold addSub; rw [if_neg hv]; simp
    · have h1 : ¬ (i : Int) < l.length := h1
      rw [List.take_of_length_le (by omega)] at k2
      refine ⟨_, (sub_frz (sz0 := 1) (T0 := 22) 1 0 (enc := sgE) (ys := last) rfl rfl (xs' := (cl ++ [last]).map slE) (by simp) (fun z hz => ?_) (fun i j x' s' hx hs => ?_)).trans (sub_flat 0 slE (cl ++ [last]) rfl (fun _ _ => rfl)), some 0, .own _ rfl, by rw [k2]; rfl, fun _ _ => rfl⟩
      · obtain ⟨w, _, rfl⟩ := List.mem_map.1 hz; rfl
      · have := frz_tail (cl := cl) (last := last) (a := 1) [] i j x' s' (by simpa using hx) hs
        simpa using this

end Go.Gs
/- Points copied, turned round, laid into a segment. -/
namespace Go.Gs
open Go.Proofs

theorem c_clone (q : List Pt) (hq : q.length ≤ 256) : CallsG Tryz.prog 45 [.sl ptE q] [] (.own 0) [(0, .arr 42 ptE 2 q)] := by
  refine calls_own tok mix Tryz.func45 rfl rfl rfl ?_
  by_cases h0 : q = []
  · refine NilC.any (Br.mk ?_ ?_)
    · exact ⟨none, .nil rfl, h0⟩
    · refine ⟨Pt, ptE, [], rfl, Ob.mk ⟨rfl, by decide, by decide, by decide, fun x hx => by cases hx⟩ ?_⟩
      refine ⟨q, rfl, Ob.mk ⟨(by show _ * (16 : Int) ≤ _; simp only [List.length_nil]; omega), (by simp only [List.length_nil]; omega), by decide, fun _ _ => rfl⟩ ?_⟩
      exact ⟨some 1, .own _ rfl, rfl, fun _ _ => rfl⟩
  · refine NilC.some (fun h => h0 (List.eq_nil_of_length_eq_zero h)) ?_
    refine ⟨Pt, ptE, [], rfl, Ob.mk ⟨rfl, by decide, by decide, by decide, fun x hx => by cases hx⟩ ?_⟩
    refine ⟨q, rfl, Ob.mk ⟨(by show _ * (16 : Int) ≤ _; simp only [List.length_nil]; omega), (by simp only [List.length_nil]; omega), by decide, fun _ _ => rfl⟩ ?_⟩
    exact ⟨some 1, .own _ rfl, rfl, fun _ _ => rfl⟩

theorem c_rev (q : List Pt) (hq : q.length ≤ 2) : CallsG Tryz.prog 46 [.own 0] [(0, .arr 42 ptE 2 q)] (.tup []) [(0, .arr 42 ptE 2 q.reverse)] := by
  refine calls_mut tok mix Tryz.func46 rfl rfl rfl (fun _ _ => rfl) rfl ?_
  intro _
  match q, hq with
  | [], _ =>
    refine Ar.fit (by decide) ?_
    refine ⟨Unit, fun _ => ⟨[(3, i64 (-1)), (2, i64 0), (0, .own 0)], [(0, .arr 42 ptE 2 [])], 1, 28, 1⟩, fun _ => True, fun _ => 0, (), trivial, sub_of [(0, some 0)] rfl rfl rfl ⟨rfl, rfl, rfl, trivial⟩ ⟨rfl, trivial⟩, ?_⟩
    intro _ _
    refine Br.mk (fun h => absurd h (by decide)) (fun _ => ?_)
    exact ⟨rfl, .refl⟩
  | [a], _ =>
    refine Ar.fit (by show _ ≤ ((1 : Nat) : Int) - 1 ∧ ((1 : Nat) : Int) - 1 ≤ _; decide) ?_
    refine ⟨Unit, fun _ => ⟨[(3, i64 0), (2, i64 0), (0, .own 0)], [(0, .arr 42 ptE 2 [a])], 1, 28, 1⟩, fun _ => True, fun _ => 0, (), trivial, sub_of [(0, some 0)] rfl rfl rfl ⟨rfl, rfl, rfl, trivial⟩ ⟨rfl, trivial⟩, ?_⟩
    intro _ _
    refine Br.mk (fun h => absurd h (by decide)) (fun _ => ?_)
    exact ⟨rfl, .refl⟩
  | [a, b], _ =>
    refine Ar.fit (by show _ ≤ ((2 : Nat) : Int) - 1 ∧ ((2 : Nat) : Int) - 1 ≤ _; decide) ?_
    refine ⟨Bool, fun t => match t with
      | false => ⟨[(3, i64 1), (2, i64 0), (0, .own 0)], [(0, .arr 42 ptE 2 [a, b])], 1, 28, 1⟩
      | true => ⟨[(3, i64 0), (2, i64 1), (0, .own 0)], [(0, .arr 42 ptE 2 [b, a])], 1, 28, 1⟩, fun _ => True, fun t => match t with | false => 1 | true => 0, false, trivial, sub_of [(0, some 0)] rfl rfl rfl ⟨rfl, rfl, rfl, trivial⟩ ⟨rfl, trivial⟩, ?_⟩
    rintro (_ | _) _
    · refine Br.mk (fun _ => ?_) (fun h => absurd (by decide) h)
      refine Dr.mk (by decide +kernel) ?_
      refine Ob.mk ⟨by decide, by show (1 : Int) < ((2 : Nat) : Int); decide⟩ ?_
      refine Ob.mk ⟨by decide, by show (1 : Int) < ((2 : Nat) : Int); decide⟩ ?_
      intro x hx
      have hx : some b = some x := hx
      cases hx
      refine Ob.mk ⟨by decide, by show (0 : Int) < ((2 : Nat) : Int); decide⟩ ?_
      refine Ob.mk ⟨by decide, by show (0 : Int) < ((2 : Nat) : Int); decide⟩ ?_
      intro x hx
      have hx : some a = some x := hx
      cases hx
      refine Ob.mk ⟨by decide, by show (0 : Int) < ((2 : Nat) : Int); decide⟩ ?_
      refine Ob.mk ⟨by decide, by show (0 : Int) < ((2 : Nat) : Int); decide⟩ ?_
      intro x hx
      refine ⟨b, rfl, ?_⟩
      refine Ob.mk ⟨by decide, by show (1 : Int) < ((2 : Nat) : Int); decide⟩ ?_
      refine Ob.mk ⟨by decide, by show (1 : Int) < ((2 : Nat) : Int); decide⟩ ?_
      intro x hx
      refine ⟨a, rfl, ?_⟩
      refine Ar.fit (by decide) ?_
      refine Ar.fit (by decide) ?_
      exact ⟨true, trivial, sub_of [(0, some 0)] rfl rfl rfl ⟨rfl, rfl, rfl, trivial⟩ ⟨rfl, trivial⟩, by decide⟩
    · refine Br.mk (fun h => absurd h (by decide)) (fun _ => ?_)
      exact ⟨rfl, .refl⟩

def withS (v : Int) (q : List Pt) : Sg := ⟨v, q.getD 0 zp, q.getD 1 zp, q.getD 2 zp⟩

theorem gid (i : Nat) (x : List SV) (hx : [[SV.loc 1 1], [.loc 1 3], [.loc 1 5]][i]? = some x) : ren.rens [(0, some 0), (1, some 1), (2, some 2)] x = some x := by
  match i, hx with
  | 0, hx => cases hx; rfl
  | 1, hx => cases hx; rfl
  | 2, hx => cases hx; rfl

theorem c_with (v : Int) (q : List Pt) : CallsG Tryz.prog 18 [i64 v, .sl ptE q] [] (.agg (sgE (withS v q))) [] := by
  refine calls_to tok mix Tryz.func18 rfl rfl rfl ?_
  refine ⟨[[.loc 1 1], [.loc 1 3], [.loc 1 5]], rfl, Ob.mk ⟨rfl, by decide, by decide, by decide, fun x hx => by
    simp only [List.mem_cons, List.not_mem_nil, or_false] at hx
    rcases hx with rfl | rfl | rfl <;> rfl⟩ ?_⟩
  intro _
  refine ⟨Nat, fun i => ⟨[(15, i64 i), (14, i64 3), (13, .own 2), (5, .loc 1 0), (4, .loc 0 0), (1, .sl ptE q)],
    [(2, .garr 72 1 [[.loc 1 1], [.loc 1 3], [.loc 1 5]]), (1, .box 44 (sgE ⟨v, if 1 ≤ i then q.getD 0 zp else zp, if 2 ≤ i then q.getD 1 zp else zp, if 3 ≤ i then q.getD 2 zp else zp⟩)), (0, .box 44 (sgE ⟨0, zp, zp, zp⟩))], 3, 32, 0⟩,
    fun i => i ≤ 3, fun i => 3 - i, 0, by decide, sub_of [(0, some 0), (1, some 1), (2, some 2)] rfl rfl rfl ⟨rfl, rfl, rfl, rfl, rfl, rfl, trivial⟩ ⟨⟨_, rfl, rfl, fun i x hx => ?_⟩, rfl, rfl, trivial⟩, ?_⟩
  · exact ⟨x, hx, gid i x hx⟩
  rintro i hi
  have hi : i ≤ 3 := hi
  have e : i = 0 ∨ i = 1 ∨ i = 2 ∨ i = 3 := by omega
  rcases e with rfl | rfl | rfl | rfl
  · refine Br.mk (fun _ => ?_) (fun h => absurd (by decide) h)
    refine Ob.mk ⟨by decide, by show (0 : Int) < ((3 : Nat) : Int); decide⟩ ?_
    refine Ob.mk ⟨by decide, by show (0 : Int) < ((3 : Nat) : Int); decide⟩ ?_
    intro y hy
    have hy : some [SV.loc 1 1] = some y := hy
    cases hy
    intro _
    refine Br.mk (fun h1 => ?_) (fun h1 => ?_)
    · refine Ob.mk ⟨by decide, h1⟩ ?_
      intro x hx
      have hx : q[0]? = some x := hx
      have hg : q.getD 0 zp = x := by rw [List.getD_eq_getElem?_getD, hx]; rfl
      refine Ar.fit (by decide) ?_
      exact ⟨1, by decide, sub_of [(0, some 0), (1, some 1), (2, some 2)] rfl rfl rfl ⟨rfl, rfl, rfl, rfl, rfl, rfl, trivial⟩ ⟨⟨_, rfl, rfl, fun i x hx => ⟨x, hx, gid i x hx⟩⟩, congrArg (fun p => some (Mem.box 44 (sgE ⟨v, p, zp, zp⟩))) hg.symm, rfl, trivial⟩, by decide⟩
    · have h1 : ¬ ((0 : Nat) : Int) < q.length := h1
      have hg : q.getD 0 zp = zp := by rw [List.getD_eq_getElem?_getD, List.getElem?_eq_none (by omega)]; rfl
      refine Ar.fit (by decide) ?_
      exact ⟨1, by decide, sub_of [(0, some 0), (1, some 1), (2, some 2)] rfl rfl rfl ⟨rfl, rfl, rfl, rfl, rfl, rfl, trivial⟩ ⟨⟨_, rfl, rfl, fun i x hx => ⟨x, hx, gid i x hx⟩⟩, congrArg (fun p => some (Mem.box 44 (sgE ⟨v, p, zp, zp⟩))) hg.symm, rfl, trivial⟩, by decide⟩
  · refine Br.mk (fun _ => ?_) (fun h => absurd (by decide) h)
    refine Ob.mk ⟨by decide, by show (1 : Int) < ((3 : Nat) : Int); decide⟩ ?_
    refine Ob.mk ⟨by decide, by show (1 : Int) < ((3 : Nat) : Int); decide⟩ ?_
    intro y hy
    have hy : some [SV.loc 1 3] = some y := hy
    cases hy
    intro _
    refine Br.mk (fun h1 => ?_) (fun h1 => ?_)
    · refine Ob.mk ⟨by decide, h1⟩ ?_
      intro x hx
      have hx : q[1]? = some x := hx
      have hg : q.getD 1 zp = x := by rw [List.getD_eq_getElem?_getD, hx]; rfl
      refine Ar.fit (by decide) ?_
      exact ⟨2, by decide, sub_of [(0, some 0), (1, some 1), (2, some 2)] rfl rfl rfl ⟨rfl, rfl, rfl, rfl, rfl, rfl, trivial⟩ ⟨⟨_, rfl, rfl, fun i x hx => ⟨x, hx, gid i x hx⟩⟩, congrArg (fun p => some (Mem.box 44 (sgE ⟨v, q.getD 0 zp, p, zp⟩))) hg.symm, rfl, trivial⟩, by decide⟩
    · have h1 : ¬ ((1 : Nat) : Int) < q.length := h1
      have hg : q.getD 1 zp = zp := by rw [List.getD_eq_getElem?_getD, List.getElem?_eq_none (by omega)]; rfl
      refine Ar.fit (by decide) ?_
      exact ⟨2, by decide, sub_of [(0, some 0), (1, some 1), (2, some 2)] rfl rfl rfl ⟨rfl, rfl, rfl, rfl, rfl, rfl, trivial⟩ ⟨⟨_, rfl, rfl, fun i x hx => ⟨x, hx, gid i x hx⟩⟩, congrArg (fun p => some (Mem.box 44 (sgE ⟨v, q.getD 0 zp, p, zp⟩))) hg.symm, rfl, trivial⟩, by decide⟩
  · refine Br.mk (fun _ => ?_) (fun h => absurd (by decide) h)
    refine Ob.mk ⟨by decide, by show (2 : Int) < ((3 : Nat) : Int); decide⟩ ?_
    refine Ob.mk ⟨by decide, by show (2 : Int) < ((3 : Nat) : Int); decide⟩ ?_
    intro y hy
    have hy : some [SV.loc 1 5] = some y := hy
    cases hy
    intro _
    refine Br.mk (fun h1 => ?_) (fun h1 => ?_)
    · refine Ob.mk ⟨by decide, h1⟩ ?_
      intro x hx
      have hx : q[2]? = some x := hx
      have hg : q.getD 2 zp = x := by rw [List.getD_eq_getElem?_getD, hx]; rfl
      refine Ar.fit (by decide) ?_
      exact ⟨3, by decide, sub_of [(0, some 0), (1, some 1), (2, some 2)] rfl rfl rfl ⟨rfl, rfl, rfl, rfl, rfl, rfl, trivial⟩ ⟨⟨_, rfl, rfl, fun i x hx => ⟨x, hx, gid i x hx⟩⟩, congrArg (fun p => some (Mem.box 44 (sgE ⟨v, q.getD 0 zp, q.getD 1 zp, p⟩))) hg.symm, rfl, trivial⟩, by decide⟩
    · have h1 : ¬ ((2 : Nat) : Int) < q.length := h1
      have hg : q.getD 2 zp = zp := by rw [List.getD_eq_getElem?_getD, List.getElem?_eq_none (by omega)]; rfl
      refine Ar.fit (by decide) ?_
      exact ⟨3, by decide, sub_of [(0, some 0), (1, some 1), (2, some 2)] rfl rfl rfl ⟨rfl, rfl, rfl, rfl, rfl, rfl, trivial⟩ ⟨⟨_, rfl, rfl, fun i x hx => ⟨x, hx, gid i x hx⟩⟩, congrArg (fun p => some (Mem.box 44 (sgE ⟨v, q.getD 0 zp, q.getD 1 zp, p⟩))) hg.symm, rfl, trivial⟩, by decide⟩
  · refine Br.mk (fun h => absurd h (by decide)) (fun _ => ?_)
    exact .refl

end Go.Gs
/- A subpath turned round. -/
namespace Go.Gs
open Go.Proofs

def endP (s : Sg) : Pt := if nm s.v = 3 then s.c else if nm s.v = 2 then s.b else s.a
theorem pts_last {s : Sg} (h : 1 ≤ nm s.v) : ((ptsOf s).length : Int) = nm s.v ∧ ∀ {n : Nat} {p : Pt}, (n : Int) = nm s.v - 1 → (ptsOf s)[n]? = some p → p = endP s := by
  have hr := nm_range s.v
  refine ⟨by simp [ptsOf]; omega, fun {n p} hn hp => ?_⟩
  rw [pts_at (by omega)] at hp
  have e : nm s.v = 1 ∨ nm s.v = 2 ∨ nm s.v = 3 := by omega
  unfold endP
  rcases e with e | e | e
  · have : n = 0 := by omega
    subst this
    rw [if_neg (by omega), if_neg (by omega)]; cases hp; rfl
  · have : n = 1 := by omega
    subst this
    rw [if_neg (by omega), if_pos e]; cases hp; rfl
  · have : n = 2 := by omega
    subst this
    rw [if_pos e]; cases hp; rfl

theorem c_end (s : Sg) (h : 1 ≤ nm s.v) : CallsG Tryz.prog 44 [.agg (sgE s)] [] (.agg (ptE (endP s))) [] := by
  refine calls_to tok mix Tryz.func44 rfl rfl rfl ?_
  have hr := nm_range s.v
  obtain ⟨h1, h2⟩ := pts_last h
  refine CallV.to _ (c_points s) rfl ?_
  intro _
  refine Ar.fit (by omega) ?_
  refine Ob.mk ⟨by omega, by omega⟩ ?_
  intro p hp
  have := h2 (by omega) hp
  subst this
  exact .refl

def backS (s : Sg) (to : Pt) : Sg := if s.v = 3 then ⟨3, s.a, to, zp⟩ else if s.v = 4 then ⟨4, s.b, s.a, to⟩ else ⟨2, to, zp, zp⟩
theorem back_with {s : Sg} (h : s.v = 2 ∨ s.v = 3 ∨ s.v = 4) {q : List Pt} (hq : q = (ptsOf s).dropLast) (to : Pt) : withS s.v (q.reverse ++ [to]) = backS s to := by
  subst hq
  obtain ⟨v, a, b, c⟩ := s
  rcases h with h | h | h <;> (dsimp only at h; subst h; rfl)

def backs : Sg → List Sg → List Sg
  | _, [] => []
  | p, s :: r => backs s r ++ [backS s (endP p)]
theorem backs_len : ∀ (p : Sg) (r : List Sg), (backs p r).length = r.length
  | _, [] => rfl
  | _, s :: r => by simp [backs, backs_len s r]
def turnB : List Sg → List Sg
  | [] => []
  | m :: mid => ⟨1, endP (mid.getLastD m), zp, zp⟩ :: backs m mid
def closeS : Sg := ⟨5, zp, zp, zp⟩
theorem turnB_len (b : List Sg) : (turnB b).length = b.length := by cases b <;> simp [turnB, backs_len]

theorem last_of {m x : Sg} {mid : List Sg} {n : Nat} (h : (m :: mid)[n]? = some x) (hn : n = mid.length) : x = mid.getLastD m := by
  subst hn
  induction mid generalizing m with
  | nil => simp at h; exact h.symm
  | cons a r ih => rw [List.getLastD_cons]; exact ih (m := a) h

theorem verb_nm {s : Sg} (h : s.v = 1 ∨ s.v = 2 ∨ s.v = 3 ∨ s.v = 4) : 1 ≤ nm s.v ∧ s.v ≠ 5 := by
  rcases h with h | h | h | h <;> rw [h] <;> decide

set_option maxRecDepth 100000 in
theorem c_turnO (m : Sg) (mid : List Sg) (hm : m.v = 1) (hmid : ∀ s ∈ mid, s.v = 2 ∨ s.v = 3 ∨ s.v = 4) (hlen : (m :: mid).length ≤ 256) :
    CallsG Tryz.prog 24 [.sl sgE (m :: mid)] [] (.own 0) [(0, .arr 44 sgE 7 (turnB (m :: mid)))] := by
  refine calls_own tok mix Tryz.func24 rfl rfl rfl ?_
  have hlen : mid.length + 1 ≤ 256 := by simpa using hlen
  have hb : ∀ s ∈ m :: mid, s.v = 1 ∨ s.v = 2 ∨ s.v = 3 ∨ s.v = 4 := fun s hs => by
    rcases List.mem_cons.1 hs with rfl | hs
    · exact .inl hm
    · exact .inr (hmid s hs)
  have hL : ((m :: mid).length : Int) = mid.length + 1 := by simp only [List.length_cons]; omega
  intro _
  refine Ar.fit (by omega) ?_
  refine Ob.mk ⟨by omega, by omega⟩ ?_
  intro x hx
  have hxl := last_of hx (by simp only [List.length_cons]; omega)
  have hxb := hb x (List.mem_of_getElem? hx)
  refine Br.mk (fun h => absurd h (verb_nm hxb).2) (fun hn5 => ?_)
  intro _
  refine Ar.fit (by simp only [List.length_cons]; omega) ?_
  refine Ob.mk ⟨by simp only [List.length_cons]; omega, by simp only [List.length_cons]; omega⟩ ?_
  intro z hz
  have hzl := last_of hz (by simp only [List.length_cons]; omega)
  have hzb := hb z (List.mem_of_getElem? hz)
  refine CallV.to _ (c_end z (verb_nm hzb).1) rfl ?_
  refine ⟨Sg, sgE, [⟨1, endP z, zp, zp⟩], rfl, Ob.mk ⟨rfl, by decide, by decide, by decide, fun x _ => ⟨rfl, rfl, rfl⟩⟩ ?_⟩
  intro _
  refine Ar.fit (by simp only [List.length_cons]; omega) ?_
  refine ⟨Nat × Sg, fun q => ⟨[(6, i64 q.1), (5, .own 0), (4, .fn 44 []), (3, bl false), (0, .sl sgE (m :: mid))], [(0, .arr 44 sgE 7 (⟨1, endP z, zp, zp⟩ :: backs q.2 ((m :: mid).drop (q.1 + 1))))], 1, 78, 0⟩,
    fun q => (m :: mid)[q.1]? = some q.2, fun q => q.1, (mid.length, z), ?_, ?_, ?_⟩
  · show (m :: mid)[mid.length]? = some z
    rw [← hz]; congr 1; simp only [List.length_cons]; omega
  · exact (sub_put (t := 3) rfl (LE_no (verb_nm hxb).2)).trans (sub_of [(0, some 0)] rfl rfl rfl ⟨congrArg (fun n => some (i64 n)) (by simp only [List.length_cons]; omega), rfl, rfl, rfl, rfl, trivial⟩ ⟨congrArg (fun r => some (Mem.arr 44 sgE 7 r)) (by rw [List.drop_eq_nil_of_le (by simp)]; rfl), trivial⟩)
  rintro ⟨j, p⟩ hp
  have hp : (m :: mid)[j]? = some p := hp
  have hj : j < mid.length + 1 := by have := (List.getElem?_eq_some_iff.1 hp).1; simpa using this
  have hdl : ((m :: mid).drop (j + 1)).length ≤ 256 := by simp; omega
  refine Br.mk (fun h1 => ?_) (fun h1 => ?_)
  · have h1 : (0 : Int) < j := h1
    obtain ⟨i, rfl⟩ : ∃ i, j = i + 1 := ⟨j - 1, by omega⟩
    have hpm : p ∈ mid := List.mem_of_getElem? (i := i) (by simpa using hp)
    have hpv := hmid p hpm
    have hy := List.getElem?_eq_getElem (show i < (m :: mid).length by simp; omega)
    generalize (m :: mid)[i]'(by simp; omega) = y at hy
    have hyv := hb y (List.mem_of_getElem? hy)
    have step : backs y ((m :: mid).drop (i + 1)) = backs p ((m :: mid).drop (i + 1 + 1)) ++ [backS p (endP y)] := by rw [drop_at hp]; rfl
    refine Ob.mk ⟨by omega, by simp only [List.length_cons]; omega⟩ ?_
    intro p1 hp1
    have hp1 : (m :: mid)[i + 1]? = some p1 := hp1
    rw [hp] at hp1; cases hp1
    refine CallV.to _ (c_points p) rfl ?_
    intro _
    have hr := nm_range p.v
    have hp4 := verb_nm (.inr hpv)
    obtain ⟨hpl, _⟩ := pts_last hp4.1
    refine Ar.fit (by omega) ?_
    refine Ob.mk ⟨⟨by decide, by omega, by omega, Int.le_refl _⟩, fun _ _ => rfl⟩ ?_
    have hq : ((ptsOf p).drop (0 : Int).toNat).take ((((ptsOf p).length : Int) - 1) - 0).toNat = (ptsOf p).dropLast := by
      rw [show (0 : Int).toNat = 0 from rfl, List.drop_zero, List.dropLast_eq_take]; congr 1; omega
    have hql : (ptsOf p).dropLast.length ≤ 2 := by rw [List.length_dropLast]; omega
    rw [hq]
    refine CallV.fresh _ _ (c_clone _ (by omega)) rfl (fun _ _ => rfl) (.inl rfl) ?_
    refine CallV.hand 1 _ _ _ rfl (c_rev _ hql) (fun _ _ => rfl) (fun _ _ => rfl) rfl rfl ?_
    refine Dr.dyn (Ob.mk (by decide +kernel) ?_)
    refine Ob.mk ⟨by omega, by simp only [List.length_cons]; omega⟩ ?_
    intro p1 hp1
    have hp1 : (m :: mid)[i + 1]? = some p1 := hp1
    rw [hp] at hp1; cases hp1
    refine Ar.fit (by omega) ?_
    refine Ob.mk ⟨by omega, by simp only [List.length_cons]; omega⟩ ?_
    intro y1 hy1
    have hy1 : (m :: mid)[i]? = some y1 := by rw [← hy1]; congr 1; omega
    rw [hy] at hy1; cases hy1
    refine CallV.to _ (c_end y (verb_nm hyv).1) rfl ?_
    refine ⟨Pt, ptE, [endP y], rfl, Ob.mk ⟨rfl, by decide, by decide, by decide, fun x _ => ⟨rfl, rfl, rfl⟩⟩ ?_⟩
    refine ⟨[endP y], rfl, Ob.mk ⟨(by show _ * (16 : Int) ≤ _; simp only [List.length_cons, List.length_nil, List.length_reverse]; omega), (by simp only [List.length_cons, List.length_nil, List.length_reverse]; omega), by decide, fun _ _ => rfl⟩ ?_⟩
    refine CallV.to _ (c_with p.v _) rfl ?_
    have hws := back_with hpv rfl (endP y)
    refine ⟨Sg, sgE, [withS p.v ((ptsOf p).dropLast.reverse ++ [endP y])], rfl, Ob.mk ⟨rfl, by decide, by decide, by decide, fun x _ => ⟨rfl, rfl, rfl⟩⟩ ?_⟩
    refine ⟨[withS p.v ((ptsOf p).dropLast.reverse ++ [endP y])], rfl, Ob.mk ⟨(by show _ * (56 : Int) ≤ _; simp only [List.length_cons, List.length_nil, backs_len]; omega), (by simp only [List.length_cons, List.length_nil, backs_len]; omega), by decide, fun _ _ => rfl⟩ ?_⟩
    refine Ob.mk (by kernel_rfl) ?_
    refine Ar.fit (by omega) ?_
    exact ⟨(i, y), hy, sub_of [(0, some 5)] rfl rfl rfl ⟨congrArg (fun n => some (i64 n)) (show ((i + 1 : Nat) : Int) - 1 = (i : Int) by omega), rfl, rfl, rfl, rfl, trivial⟩ ⟨congrArg (fun r => some (Mem.arr 44 sgE 7 r)) (show (⟨1, endP z, zp, zp⟩ :: backs p ((m :: mid).drop (i + 1 + 1))) ++ _ = ⟨1, endP z, zp, zp⟩ :: backs y ((m :: mid).drop (i + 1)) by rw [step, hws]; rfl), trivial⟩, by show i < i + 1; omega⟩
  · have h1 : ¬ (0 : Int) < j := h1
    have h0 : j = 0 := by omega
    subst h0
    have hpm : p = m := by simpa using hp.symm
    subst hpm
    subst hzl
    exact ⟨some 0, .own _ rfl, rfl, fun _ _ => rfl⟩

set_option maxRecDepth 100000 in
theorem c_turnC (m : Sg) (mid : List Sg) (c : Sg) (hc : c.v = 5) (hm : m.v = 1) (hmid : ∀ s ∈ mid, s.v = 2 ∨ s.v = 3 ∨ s.v = 4) (hlen : (m :: mid).length ≤ 256) :
    CallsG Tryz.prog 24 [.sl sgE ((m :: mid) ++ [c])] [] (.own 0) [(0, .arr 44 sgE 7 (turnB (m :: mid) ++ [closeS]))] := by
  refine calls_own tok mix Tryz.func24 rfl rfl rfl ?_
  have hlen : mid.length + 1 ≤ 256 := by simpa using hlen
  have hb : ∀ s ∈ m :: mid, s.v = 1 ∨ s.v = 2 ∨ s.v = 3 ∨ s.v = 4 := fun s hs => by
    rcases List.mem_cons.1 hs with rfl | hs
    · exact .inl hm
    · exact .inr (hmid s hs)
  have hL : (((m :: mid) ++ [c]).length : Int) = mid.length + 2 := by simp only [List.length_append, List.length_cons, List.length_nil]; omega
  intro _
  refine Ar.fit (by omega) ?_
  refine Ob.mk ⟨by omega, by omega⟩ ?_
  intro x hx
  have hxc : x = c := by
    have hn : ((((m :: mid) ++ [c]).length : Int) - 1).toNat = (m :: mid).length := by simp only [List.length_append, List.length_cons, List.length_nil]; omega
    exact last_at hx hn
  subst hxc
  refine Br.mk (fun _ => ?_) (fun h => absurd hc h)
  intro _
  refine Ar.fit (by omega) ?_
  refine Ob.mk ⟨⟨by decide, by omega, by omega, Int.le_refl _⟩, fun _ _ => rfl⟩ ?_
  have hcut : (((m :: mid) ++ [x]).drop (0 : Int).toNat).take (((((m :: mid) ++ [x]).length : Int) - 1) - 0).toNat = m :: mid := by
    have hn : (((((m :: mid) ++ [x]).length : Int) - 1) - 0).toNat = (m :: mid).length := by simp only [List.length_append, List.length_cons, List.length_nil]; omega
    rw [hn]; simp
  rw [hcut]
  intro _
  refine Ar.fit (by simp only [List.length_cons]; omega) ?_
  refine Ob.mk ⟨by simp only [List.length_cons]; omega, by simp only [List.length_cons]; omega⟩ ?_
  intro z hz
  have hzl := last_of hz (by simp only [List.length_cons]; omega)
  have hzb := hb z (List.mem_of_getElem? hz)
  refine CallV.to _ (c_end z (verb_nm hzb).1) rfl ?_
  refine ⟨Sg, sgE, [⟨1, endP z, zp, zp⟩], rfl, Ob.mk ⟨rfl, by decide, by decide, by decide, fun x _ => ⟨rfl, rfl, rfl⟩⟩ ?_⟩
  intro _
  refine Ar.fit (by simp only [List.length_cons]; omega) ?_
  refine ⟨Nat × Sg, fun q => ⟨[(6, i64 q.1), (5, .own 0), (4, .fn 44 []), (3, bl true), (0, .sl sgE (m :: mid))], [(0, .arr 44 sgE 7 (⟨1, endP z, zp, zp⟩ :: backs q.2 ((m :: mid).drop (q.1 + 1))))], 1, 78, 0⟩,
    fun q => (m :: mid)[q.1]? = some q.2, fun q => q.1, (mid.length, z), ?_, ?_, ?_⟩
  · show (m :: mid)[mid.length]? = some z
    rw [← hz]; congr 1; simp only [List.length_cons]; omega
  · exact (sub_put (t := 3) rfl (LE_yes hc)).trans (sub_of [(0, some 0)] rfl rfl rfl ⟨congrArg (fun n => some (i64 n)) (by simp only [List.length_cons]; omega), rfl, rfl, rfl, rfl, trivial⟩ ⟨congrArg (fun r => some (Mem.arr 44 sgE 7 r)) (by rw [List.drop_eq_nil_of_le (by simp)]; rfl), trivial⟩)
  rintro ⟨j, p⟩ hp
  have hp : (m :: mid)[j]? = some p := hp
  have hj : j < mid.length + 1 := by have := (List.getElem?_eq_some_iff.1 hp).1; simpa using this
  have hdl : ((m :: mid).drop (j + 1)).length ≤ 256 := by simp; omega
  refine Br.mk (fun h1 => ?_) (fun h1 => ?_)
  · have h1 : (0 : Int) < j := h1
    obtain ⟨i, rfl⟩ : ∃ i, j = i + 1 := ⟨j - 1, by omega⟩
    have hpm : p ∈ mid := List.mem_of_getElem? (i := i) (by simpa using hp)
    have hpv := hmid p hpm
    have hy := List.getElem?_eq_getElem (show i < (m :: mid).length by simp; omega)
    generalize (m :: mid)[i]'(by simp; omega) = y at hy
    have hyv := hb y (List.mem_of_getElem? hy)
    have step : backs y ((m :: mid).drop (i + 1)) = backs p ((m :: mid).drop (i + 1 + 1)) ++ [backS p (endP y)] := by rw [drop_at hp]; rfl
    refine Ob.mk ⟨by omega, by simp only [List.length_cons]; omega⟩ ?_
    intro p1 hp1
    have hp1 : (m :: mid)[i + 1]? = some p1 := hp1
    rw [hp] at hp1; cases hp1
    refine CallV.to _ (c_points p) rfl ?_
    intro _
    have hr := nm_range p.v
    have hp4 := verb_nm (.inr hpv)
    obtain ⟨hpl, _⟩ := pts_last hp4.1
    refine Ar.fit (by omega) ?_
    refine Ob.mk ⟨⟨by decide, by omega, by omega, Int.le_refl _⟩, fun _ _ => rfl⟩ ?_
    have hq : ((ptsOf p).drop (0 : Int).toNat).take ((((ptsOf p).length : Int) - 1) - 0).toNat = (ptsOf p).dropLast := by
      rw [show (0 : Int).toNat = 0 from rfl, List.drop_zero, List.dropLast_eq_take]; congr 1; omega
    have hql : (ptsOf p).dropLast.length ≤ 2 := by rw [List.length_dropLast]; omega
    rw [hq]
    refine CallV.fresh _ _ (c_clone _ (by omega)) rfl (fun _ _ => rfl) (.inl rfl) ?_
    refine CallV.hand 1 _ _ _ rfl (c_rev _ hql) (fun _ _ => rfl) (fun _ _ => rfl) rfl rfl ?_
    refine Dr.dyn (Ob.mk (by decide +kernel) ?_)
    refine Ob.mk ⟨by omega, by simp only [List.length_cons]; omega⟩ ?_
    intro p1 hp1
    have hp1 : (m :: mid)[i + 1]? = some p1 := hp1
    rw [hp] at hp1; cases hp1
    refine Ar.fit (by omega) ?_
    refine Ob.mk ⟨by omega, by simp only [List.length_cons]; omega⟩ ?_
    intro y1 hy1
    have hy1 : (m :: mid)[i]? = some y1 := by rw [← hy1]; congr 1; omega
    rw [hy] at hy1; cases hy1
    refine CallV.to _ (c_end y (verb_nm hyv).1) rfl ?_
    refine ⟨Pt, ptE, [endP y], rfl, Ob.mk ⟨rfl, by decide, by decide, by decide, fun x _ => ⟨rfl, rfl, rfl⟩⟩ ?_⟩
    refine ⟨[endP y], rfl, Ob.mk ⟨(by show _ * (16 : Int) ≤ _; simp only [List.length_cons, List.length_nil, List.length_reverse]; omega), (by simp only [List.length_cons, List.length_nil, List.length_reverse]; omega), by decide, fun _ _ => rfl⟩ ?_⟩
    refine CallV.to _ (c_with p.v _) rfl ?_
    have hws := back_with hpv rfl (endP y)
    refine ⟨Sg, sgE, [withS p.v ((ptsOf p).dropLast.reverse ++ [endP y])], rfl, Ob.mk ⟨rfl, by decide, by decide, by decide, fun x _ => ⟨rfl, rfl, rfl⟩⟩ ?_⟩
    refine ⟨[withS p.v ((ptsOf p).dropLast.reverse ++ [endP y])], rfl, Ob.mk ⟨(by show _ * (56 : Int) ≤ _; simp only [List.length_cons, List.length_nil, backs_len]; omega), (by simp only [List.length_cons, List.length_nil, backs_len]; omega), by decide, fun _ _ => rfl⟩ ?_⟩
    refine Ob.mk (by kernel_rfl) ?_
    refine Ar.fit (by omega) ?_
    exact ⟨(i, y), hy, sub_of [(0, some 5)] rfl rfl rfl ⟨congrArg (fun n => some (i64 n)) (show ((i + 1 : Nat) : Int) - 1 = (i : Int) by omega), rfl, rfl, rfl, rfl, trivial⟩ ⟨congrArg (fun r => some (Mem.arr 44 sgE 7 r)) (show (⟨1, endP z, zp, zp⟩ :: backs p ((m :: mid).drop (i + 1 + 1))) ++ _ = ⟨1, endP z, zp, zp⟩ :: backs y ((m :: mid).drop (i + 1)) by rw [step, hws]; rfl), trivial⟩, by show i < i + 1; omega⟩
  · have h1 : ¬ (0 : Int) < j := h1
    have h0 : j = 0 := by omega
    subst h0
    have hpm : p = m := by simpa using hp.symm
    subst hpm
    subst hzl
    refine ⟨Sg, sgE, [closeS], rfl, Ob.mk ⟨rfl, by decide, by decide, by decide, fun x _ => ⟨rfl, rfl, rfl⟩⟩ ?_⟩
    refine ⟨[closeS], rfl, Ob.mk ⟨(by show _ * (56 : Int) ≤ _; simp only [List.length_cons, List.length_nil, backs_len]; omega), (by simp only [List.length_cons, List.length_nil, backs_len]; omega), by decide, fun _ _ => rfl⟩ ?_⟩
    exact ⟨some 2, .own _ rfl, rfl, fun _ _ => rfl⟩

end Go.Gs
/- What a path that may be is like; a path turned round; its subpaths counted. -/
namespace Go.Gs
open Go.Proofs

/-- Each segment may stand behind the one ahead of it. -/
def oks : Int → List Sg → Prop
  | _, [] => True
  | last, s :: r => errAt last s = 0 ∧ oks s.v r
theorem chk_oks : ∀ {l : List Sg} {last : Int} {i : Nat}, (chk last i l).1 = 0 ↔ oks last l
  | [], _, _ => by simp [chk, oks]
  | s :: r, last, i => by
    unfold chk oks
    by_cases h : errAt last s = 0
    · rw [if_neg (fun hn => hn h), chk_oks]; exact ⟨fun k => ⟨h, k⟩, fun k => k.2⟩
    · rw [if_pos h]; exact ⟨fun k => absurd k h, fun k => absurd k.1 h⟩
theorem valid_iff {l : List Sg} : valid l ↔ l.length ≤ 256 ∧ oks 5 l := by
  unfold valid check
  by_cases h : 256 < l.length
  · rw [if_pos h]; exact ⟨fun k => absurd k (by decide), fun k => absurd h (by omega)⟩
  · rw [if_neg h, chk_oks]; exact ⟨fun k => ⟨by omega, k⟩, fun k => k.2⟩
theorem errAt_zero {last : Int} {s : Sg} : errAt last s = 0 ↔ 0 ≤ nm s.v ∧ stands last s.v ∧ fits s := by
  unfold errAt
  by_cases h1 : nm s.v < 0
  · rw [if_pos h1]; exact ⟨fun h => absurd h (by decide), fun h => by omega⟩
  · rw [if_neg h1]
    by_cases h2 : stands last s.v
    · rw [if_neg (fun h => h h2)]
      by_cases h3 : fits s
      · rw [if_neg (fun h => h h3)]; exact ⟨fun _ => ⟨by omega, h2, h3⟩, fun _ => rfl⟩
      · rw [if_pos h3]; exact ⟨fun h => absurd h (by decide), fun h => absurd h.2.2 h3⟩
    · rw [if_pos h2]; exact ⟨fun h => absurd h (by decide), fun h => absurd h.2.1 h2⟩
theorem nm_nonneg {v : Int} (h : 0 ≤ nm v) : v = 1 ∨ v = 2 ∨ v = 3 ∨ v = 4 ∨ v = 5 := by
  unfold nm at h
  by_cases h1 : v = 1
  · exact .inl h1
  rw [if_neg h1] at h
  by_cases h2 : v = 2
  · exact .inr (.inl h2)
  rw [if_neg h2] at h
  by_cases h3 : v = 3
  · exact .inr (.inr (.inl h3))
  rw [if_neg h3] at h
  by_cases h4 : v = 4
  · exact .inr (.inr (.inr (.inl h4)))
  rw [if_neg h4] at h
  by_cases h5 : v = 5
  · exact .inr (.inr (.inr (.inr h5)))
  rw [if_neg h5] at h; omega

def midV (s : Sg) : Prop := s.v = 2 ∨ s.v = 3 ∨ s.v = 4
/-- A subpath: a move, lines and curves, and it may be closed; 'last' is its last verb. -/
def Grp (g : List Sg) (last : Int) : Prop :=
  ∃ m mid, m.v = 1 ∧ (∀ s ∈ mid, midV s) ∧ (∀ s ∈ g, fits s) ∧
    ((g = m :: mid ∧ last ≠ 5 ∧ (mid = [] → last = 1)) ∨ ∃ c, g = m :: mid ++ [c] ∧ c.v = 5 ∧ last = 5 ∧ mid ≠ [])

theorem grp_next {g : List Sg} {last : Int} {x : Sg} (h : Grp g last) (he : errAt last x = 0) (hv : x.v ≠ 1) : Grp (g ++ [x]) x.v := by
  obtain ⟨h0, h1, h2⟩ := errAt_zero.1 he
  obtain ⟨m, mid, g1, g2, g3, g4⟩ := h
  have hs : last ≠ 5 ∧ (x.v ≠ 5 ∨ last ≠ 1) := h1.resolve_left hv
  have hf : ∀ s ∈ g ++ [x], fits s := fun s hs => by
    rcases List.mem_append.1 hs with hs | hs
    · exact g3 s hs
    · simp at hs; subst hs; exact h2
  rcases g4 with ⟨rfl, g5, g6⟩ | ⟨c, _, _, g5, _⟩
  · by_cases h5 : x.v = 5
    · exact ⟨m, mid, g1, g2, hf, .inr ⟨x, rfl, h5, h5, fun e => (hs.2.resolve_left (fun h => h h5)) (g6 e)⟩⟩
    · refine ⟨m, mid ++ [x], g1, fun s hs => ?_, hf, .inl ⟨rfl, h5, fun e => by simp at e⟩⟩
      rcases List.mem_append.1 hs with hs | hs
      · exact g2 s hs
      · simp at hs; subst hs
        rcases nm_nonneg h0 with h | h | h | h | h
        · exact absurd h hv
        · exact .inl h
        · exact .inr (.inl h)
        · exact .inr (.inr h)
        · exact absurd h h5
  · exact absurd g5 hs.1

theorem grp_first {last : Int} {x : Sg} (he : errAt last x = 0) (hv : x.v = 1) : Grp [x] x.v :=
  ⟨x, [], hv, fun s hs => (by cases hs), fun s hs => by simp at hs; subst hs; exact (errAt_zero.1 he).2.2, .inl ⟨rfl, by omega, fun _ => hv⟩⟩

def InvS (S : List (List Sg)) (last : Int) : Prop := (S = [] ∧ last = 5) ∨ ∃ cl g, S = cl ++ [g] ∧ Grp g last ∧ ∀ h ∈ cl, ∃ k, Grp h k

theorem inv_next {S : List (List Sg)} {last : Int} {x : Sg} (h : InvS S last) (he : errAt last x = 0) : InvS (addSub S x) x.v := by
  unfold addSub
  by_cases hv : x.v = 1
  · rw [if_pos hv]
    rcases h with ⟨rfl, rfl⟩ | ⟨cl, g, rfl, h1, h2⟩
    · exact .inr ⟨[], [x], rfl, grp_first he hv, fun h hh => by cases hh⟩
    · refine .inr ⟨cl ++ [g], [x], rfl, grp_first he hv, fun h hh => ?_⟩
      rcases List.mem_append.1 hh with hh | hh
      · exact h2 h hh
      · simp at hh; subst hh; exact ⟨_, h1⟩
  · rw [if_neg hv]
    rcases h with ⟨rfl, rfl⟩ | ⟨cl, g, rfl, h1, h2⟩
    · exact absurd ((errAt_zero.1 he).2.1.resolve_left hv).1 (fun h => h rfl)
    · exact .inr ⟨cl, g ++ [x], by simp, grp_next h1 he hv, h2⟩

theorem inv_all : ∀ (r : List Sg) {S : List (List Sg)} {last : Int}, InvS S last → oks last r → ∃ k, InvS (r.foldl addSub S) k
  | [], _, last, h, _ => ⟨last, h⟩
  | _ :: r, _, _, h, ho => inv_all r (inv_next h ho.1) ho.2

theorem subs_grp {l : List Sg} (h : valid l) : ∀ g ∈ subs l, ∃ k, Grp g k := by
  obtain ⟨k, hk⟩ := inv_all l (S := []) (last := 5) (.inl ⟨rfl, rfl⟩) (valid_iff.1 h).2
  intro g hg
  have hg : g ∈ l.foldl addSub [] := hg
  rcases hk with ⟨e, _⟩ | ⟨cl, g', e, h1, h2⟩
  · rw [e] at hg; cases hg
  · rw [e] at hg
    rcases List.mem_append.1 hg with hg | hg
    · exact h2 g hg
    · simp at hg; subst hg; exact ⟨_, h1⟩

theorem addSub_flat (S : List (List Sg)) (x : Sg) : (addSub S x).flatten = S.flatten ++ [x] := by
  unfold addSub
  by_cases hv : x.v = 1
  · rw [if_pos hv]; simp
  · rw [if_neg hv]
    rcases List.eq_nil_or_concat S with rfl | ⟨cl, g, rfl⟩
    · rfl
    · simp
theorem fold_flat : ∀ (r : List Sg) (S : List (List Sg)), (r.foldl addSub S).flatten = S.flatten ++ r
  | [], S => by simp
  | x :: r, S => by rw [List.foldl_cons, fold_flat r, addSub_flat]; simp
theorem subs_flat (l : List Sg) : (subs l).flatten = l := by
  unfold subs; rw [fold_flat]; rfl
theorem valid_first {l : List Sg} (h : valid l) : ∀ x, l[0]? = some x → x.v = 1 := fun x hx => by
  have ho := (valid_iff.1 h).2
  cases l with
  | nil => cases hx
  | cons a r =>
    cases hx
    exact (errAt_zero.1 ho.1).2.1.resolve_right (fun h => h.1 rfl)

/-- A subpath turned round. -/
def turnG (g : List Sg) : List Sg := if g.getLast?.map Sg.v = some 5 then turnB g.dropLast ++ [closeS] else turnB g
theorem turnG_open {m : Sg} {mid : List Sg} (hm : m.v = 1) (h : ∀ s ∈ mid, midV s) : turnG (m :: mid) = turnB (m :: mid) := by
  unfold turnG
  rw [if_neg]
  intro e
  rcases List.eq_nil_or_concat mid with rfl | ⟨r, z, rfl⟩
  · simp at e; omega
  · have hz := h z (by simp)
    rw [List.concat_eq_append, ← List.cons_append, List.getLast?_concat] at e
    simp at e
    unfold midV at hz; omega
theorem turnG_closed {m c : Sg} {mid : List Sg} (hc : c.v = 5) : turnG (m :: mid ++ [c]) = turnB (m :: mid) ++ [closeS] := by
  unfold turnG
  rw [if_pos (by rw [List.getLast?_concat]; simp [hc]), List.dropLast_concat]
theorem turnG_len {g : List Sg} {k : Int} (h : Grp g k) : (turnG g).length = g.length := by
  obtain ⟨m, mid, g1, g2, _, g4⟩ := h
  rcases g4 with ⟨rfl, _⟩ | ⟨c, rfl, hc, _⟩
  · rw [turnG_open g1 g2, turnB_len]
  · rw [turnG_closed hc]; simp [turnB_len]

theorem c_turned (g : List Sg) (k : Int) (h : Grp g k) (hlen : g.length ≤ 256) : CallsG Tryz.prog 24 [.sl sgE g] [] (.own 0) [(0, .arr 44 sgE 7 (turnG g))] := by
  obtain ⟨m, mid, g1, g2, _, g4⟩ := h
  rcases g4 with ⟨rfl, _⟩ | ⟨c, rfl, hc, _⟩
  · rw [turnG_open g1 g2]; exact c_turnO m mid g1 g2 hlen
  · rw [turnG_closed hc]; exact c_turnC m mid c hc g1 g2 (by simp at hlen ⊢; omega)
def rev (l : List Sg) : List Sg × Int := if valid l then ((subs l).flatMap turnG, 0) else ([], 10)
def lstR (c : List Sg × Int) : SV := .tup [.own 0, i64 c.2]

theorem mem_len {S : List (List Sg)} {g : List Sg} (h : g ∈ S) : g.length ≤ S.flatten.length := by
  induction S with
  | nil => cases h
  | cons a r ih =>
    simp only [List.flatten_cons, List.length_append]
    rcases List.mem_cons.1 h with rfl | h
    · omega
    · have := ih h; omega
theorem flatMap_len {S : List (List Sg)} (h : ∀ g ∈ S, ∃ k, Grp g k) : (S.flatMap turnG).length = S.flatten.length := by
  induction S with
  | nil => rfl
  | cons a r ih =>
    obtain ⟨k, hk⟩ := h a (.head _)
    simp only [List.flatMap_cons, List.flatten_cons, List.length_append, turnG_len hk, ih (fun g hg => h g (.tail _ hg))]
theorem flatMap_take {S : List (List Sg)} {i : Nat} {g : List Sg} (h : S[i]? = some g) : (S.take (i + 1)).flatMap turnG = (S.take i).flatMap turnG ++ turnG g := by
  rw [List.take_add_one, h]; simp [List.flatMap_append]
theorem flatMap_take_len {l : List Sg} (h : valid l) (i : Nat) : (((subs l).take i).flatMap turnG).length ≤ 256 := by
  have h1 := flatMap_len (S := (subs l).take i) fun g hg => subs_grp h g (List.mem_of_mem_take hg)
  have h2 : ((subs l).take i).flatten.length ≤ (subs l).flatten.length := by
    conv => rhs; rw [← List.take_append_drop i (subs l)]
    rw [List.flatten_append, List.length_append]; omega
  rw [subs_flat] at h2
  have := valid_len h
  omega

theorem c_reverse (l : List Sg) : CallsG Tryz.prog 10 [.sl sgE l] [] (lstR (rev l)) [(0, .arr 44 sgE 7 (rev l).1)] := by
  generalize hc : rev l = c
  refine calls_own tok mix Tryz.func10 rfl rfl rfl ?_
  refine CallV.to _ (c_valid l) rfl ?_
  refine Br.mk (fun h => ?_) (fun h => ?_)
  · have : c = ([], 10) := by rw [← hc]; exact if_neg h
    subst this
    exact ⟨none, take_tup (.cons (.nil rfl) (.cons (take_int rfl) .nil)), rfl⟩
  have h := Decidable.not_not.1 h
  have : c = ((subs l).flatMap turnG, 0) := by rw [← hc]; exact if_pos h
  subst this
  clear hc
  refine CallV.fresh _ _ (c_subpaths l (valid_first h) (valid_len h)) rfl (fun _ _ => rfl) (.inl rfl) ?_
  intro hl
  refine ⟨Nat, fun i => ⟨[(13, i64 i), (12, i64 (subs l).length), (11, .own 0), (4, .own 1)], [(1, .arr 44 sgE 7 (((subs l).take i).flatMap turnG)), (0, .arr 22 slE 1 (subs l))], 2, 23, 0⟩,
    fun i => i ≤ (subs l).length, fun i => (subs l).length - i, 0, Nat.zero_le _, sub_of [(0, some 0), (1, none)] rfl rfl rfl ⟨rfl, rfl, rfl, rfl, trivial⟩ ⟨rfl, rfl, trivial⟩, ?_⟩
  rintro i hi
  have hi : i ≤ (subs l).length := hi
  refine Br.mk (fun h1 => ?_) (fun h1 => ?_)
  · have h1 : (i : Int) < (subs l).length := h1
    refine Ob.mk ⟨by omega, h1⟩ ?_
    refine Ob.mk ⟨by omega, h1⟩ ?_
    intro g hg
    have hg : (subs l)[i]? = some g := hg
    obtain ⟨k, hk⟩ := subs_grp h g (List.mem_of_getElem? hg)
    have hgl : g.length ≤ 256 := by
      have := mem_len (List.mem_of_getElem? hg)
      rw [subs_flat] at this
      have := valid_len h; omega
    refine CallV.fresh _ _ (c_turned g k hk hgl) rfl (fun _ _ => rfl) (.inl rfl) ?_
    have h2 := flatMap_take_len h i
    have h3 := turnG_len hk
    refine ⟨_, rfl, Ob.mk ⟨(by show _ * (56 : Int) ≤ _; omega), (by omega), by decide, fun _ _ => rfl⟩ ?_⟩
    refine Ar.fit (by omega) ?_
    exact ⟨i + 1, by show i + 1 ≤ _; omega, sub_of [(0, some 0), (1, some 3)] rfl rfl rfl ⟨rfl, rfl, rfl, rfl, trivial⟩ ⟨congrArg (fun q => some (Mem.arr 44 sgE 7 q)) (flatMap_take hg).symm, rfl, trivial⟩, by dsimp only; omega⟩
  · have h1 : ¬ (i : Int) < (subs l).length := h1
    exact ⟨some 1, take_tup (.cons (.own _ rfl) (.cons (take_int rfl) .nil)), congrArg (fun q => some (Mem.arr 44 sgE 7 q)) (by rw [List.take_of_length_le (by omega)]), fun _ _ => rfl⟩

/-- How many moves there are. -/
def cnt (l : List Sg) : Int := (l.filter fun s => decide (s.v = 1)).length
def cntV (l : List Sg) : Int := if valid l then cnt l else 0
theorem cnt_take {l : List Sg} {i : Nat} {x : Sg} (h : l[i]? = some x) : cnt (l.take (i + 1)) = cnt (l.take i) + if x.v = 1 then 1 else 0 := by
  unfold cnt
  rw [List.take_add_one, h]
  by_cases hv : x.v = 1 <;> simp [hv]
theorem subs_len {l : List Sg} (h : valid l) : ((subs l).length : Int) = cnt l := by
  have key : ∀ (r : List Sg) (S : List (List Sg)) (last : Int), InvS S last → oks last r → ((r.foldl addSub S).length : Int) = S.length + cnt r := by
    intro r
    induction r with
    | nil => intro S last _ _; simp [cnt]
    | cons x r ih =>
      intro S last hS ho
      rw [List.foldl_cons, ih _ _ (inv_next hS ho.1) ho.2]
      have : ((addSub S x).length : Int) = S.length + if x.v = 1 then 1 else 0 := by
        unfold addSub
        by_cases hv : x.v = 1
        · simp [hv]
        · rw [if_neg hv, if_neg hv]
          rcases hS with ⟨rfl, rfl⟩ | ⟨cl, g, rfl, _⟩
          · exact absurd ((errAt_zero.1 ho.1).2.1.resolve_left hv).1 (fun h => h rfl)
          · simp
      rw [this]
      unfold cnt
      by_cases hv : x.v = 1 <;> simp [hv] <;> omega
  have := key l [] 5 (.inl ⟨rfl, rfl⟩) (valid_iff.1 h).2
  simpa [subs] using this

theorem c_count (l : List Sg) : CallsG Tryz.prog 14 [.sl sgE l] [] (i64 (cntV l)) [] := by
  refine calls_to tok mix Tryz.func14 rfl rfl rfl ?_
  refine CallV.to _ (c_valid l) rfl ?_
  refine Br.mk (fun h => LE_int (if_neg h).symm) (fun h => ?_)
  have h := Decidable.not_not.1 h
  refine CallV.fresh _ _ (c_subpaths l (valid_first h) (valid_len h)) rfl (fun _ _ => rfl) (.inl rfl) ?_
  intro _
  exact LE_int ((subs_len h).trans (if_pos h).symm)

end Go.Gs
/- The example of the laws of paths; the laws of bounds and of paths that may be. -/
namespace Go.Gs
open Go.Proofs

def cornerL : List Sg := [⟨1, zp, zp, zp⟩, ⟨2, ⟨2, 0⟩, zp, zp⟩, ⟨2, ⟨2, 2⟩, zp, zp⟩, closeS]
def wantL : List Sg := [⟨1, ⟨2, 2⟩, zp, zp⟩, ⟨2, ⟨2, 0⟩, zp, zp⟩, ⟨2, zp, zp, zp⟩, closeS]
def badL : List Sg := [⟨1, zp, zp, zp⟩, closeS]

theorem c_corner : CallsG Tryz.prog 11 [] [] (.own 0) [(0, .arr 44 sgE 7 cornerL)] := by
  refine calls_own tok mix Tryz.func11 rfl rfl rfl ?_
  refine ⟨Sg, sgE, cornerL, rfl, Ob.mk ⟨rfl, by decide, by decide, by decide, fun x _ => ⟨rfl, rfl, rfl⟩⟩ ?_⟩
  exact ⟨some 0, .own _ rfl, rfl, fun _ _ => rfl⟩

theorem sg_scalar (xs : List Sg) : scalarM (.arr 44 sgE 7 xs) := fun _ _ => rfl
theorem sg_flat (xs : List Sg) : flatM (.arr 44 sgE 7 xs) := fun _ _ => rfl

set_option maxRecDepth 100000 in
theorem c_example : CallsG Tryz.prog 6 [] [] (bl true) [] := by
  refine calls_to tok mix Tryz.func6 rfl rfl rfl ?_
  have hr : rev cornerL = (wantL, 0) := by decide +kernel
  have hck : check badL = (10, 1) := by decide +kernel
  have hlo : loOf cornerL = zp := by decide +kernel
  have hhi : hiOf cornerL = ⟨2, 2⟩ := by decide +kernel
  have hso : some? cornerL := by decide +kernel
  have hcn : cntV cornerL = 1 := by decide +kernel
  have cr : CallsG Tryz.prog 10 [.sl sgE cornerL] [] (.tup [.own 0, i64 0]) [(0, .arr 44 sgE 7 wantL)] := by
    have := c_reverse cornerL; rw [hr] at this; exact this
  have cc : CallsG Tryz.prog 12 [.sl sgE badL] [] (.tup [i64 10, i64 1]) [] := by
    have := c_check badL; unfold twoI at this; rw [hck] at this; exact this
  have cb : CallsG Tryz.prog 13 [.sl sgE cornerL] [] (.tup [.agg (ptE zp), .agg (ptE ⟨2, 2⟩), pr (some? cornerL)]) [] := by
    have := c_bounds cornerL; unfold bndR at this; rw [hlo, hhi] at this; exact this
  have cn : CallsG Tryz.prog 14 [.sl sgE cornerL] [] (i64 1) [] := by
    have := c_count cornerL; rw [hcn] at this; exact this
  refine CallV.fresh _ _ c_corner rfl (sg_flat _) (.inr (sg_scalar _)) ?_
  refine CallV.fresh _ _ cr rfl (sg_flat _) (.inr (sg_scalar _)) ?_
  refine ⟨Sg, sgE, wantL, rfl, Ob.mk ⟨rfl, by decide, by decide, by decide, fun x _ => ⟨rfl, rfl, rfl⟩⟩ ?_⟩
  refine ⟨Sg, sgE, badL, rfl, Ob.mk ⟨rfl, by decide, by decide, by decide, fun x _ => ⟨rfl, rfl, rfl⟩⟩ ?_⟩
  refine CallV.to _ cc rfl ?_
  refine CallV.fresh _ _ c_corner rfl (sg_flat _) (.inr (sg_scalar _)) ?_
  refine CallV.to _ cb rfl ?_
  refine Br.mk (fun _ => ?_) (fun h => absurd (by decide) h)
  refine CallV.to _ (c_equal' wantL wantL) rfl ?_
  refine Br.mk (fun _ => ?_) (fun h => absurd rfl h)
  refine Br.mk (fun _ => ?_) (fun h => absurd (by decide) h)
  refine Br.mk (fun _ => ?_) (fun h => absurd (by decide) h)
  refine Br.mk (fun _ => ?_) (fun h => absurd (by decide) h)
  refine Br.mk (fun _ => ?_) (fun h => absurd (by decide) h)
  refine Br.mk (fun _ => ?_) (fun h => absurd hso h)
  refine CallV.fresh _ _ c_corner rfl (sg_flat _) (.inr (sg_scalar _)) ?_
  refine CallV.to _ cn rfl ?_
  exact LE_yes (by decide)

theorem c_few (l : List Sg) : CallsG Tryz.prog 4 [.sl sgE l] [] (pr (l.length ≤ 300)) [] := by
  refine calls_to tok mix Tryz.func4 rfl rfl rfl ?_
  intro _
  exact LE_pr (by omega)

end Go.Gs
/- A path turned round twice is the path; its points, its bounds and its subpaths; the law. -/
namespace Go.Gs
open Go.Proofs

theorem endP_back {s : Sg} (h : midV s) (e : Pt) : endP (backS s e) = e := by
  obtain ⟨v, a, b, c⟩ := s
  rcases h with h | h | h <;> (dsimp only at h; subst h; rfl)
theorem back_midV {s : Sg} (h : midV s) (e : Pt) : midV (backS s e) := by
  obtain ⟨v, a, b, c⟩ := s
  rcases h with h | h | h
  · dsimp only at h; subst h; exact .inl rfl
  · dsimp only at h; subst h; exact .inr (.inl rfl)
  · dsimp only at h; subst h; exact .inr (.inr rfl)
theorem back_back {s : Sg} (h : midV s) (hf : fits s) (e : Pt) : backS (backS s e) (endP s) = s := by
  obtain ⟨v, a, b, c⟩ := s
  obtain ⟨h1, h2, h3⟩ := hf
  rcases h with h | h | h
  · dsimp only at h; subst h
    have hb : b = zp := h2.2 (by show nm 2 ≤ 1; decide)
    have hc : c = zp := h3.2 (by show nm 2 ≤ 2; decide)
    subst hb; subst hc; rfl
  · dsimp only at h; subst h
    have hc : c = zp := h3.2 (by show nm 3 ≤ 2; decide)
    subst hc; rfl
  · dsimp only at h; subst h; rfl
theorem zp_ok : ptOK zp := by decide
theorem back_fits {s : Sg} (h : midV s) (hf : fits s) {e : Pt} (he : ptOK e) : fits (backS s e) := by
  obtain ⟨v, a, b, c⟩ := s
  obtain ⟨h1, h2, h3⟩ := hf
  rcases h with h | h | h
  · dsimp only at h; subst h
    exact ⟨⟨he, fun k => absurd k (by show ¬ nm 2 ≤ 0; decide)⟩, ⟨zp_ok, fun _ => rfl⟩, ⟨zp_ok, fun _ => rfl⟩⟩
  · dsimp only at h; subst h
    exact ⟨⟨h1.1, fun k => absurd k (by show ¬ nm 3 ≤ 0; decide)⟩, ⟨he, fun k => absurd k (by show ¬ nm 3 ≤ 1; decide)⟩, ⟨zp_ok, fun _ => rfl⟩⟩
  · dsimp only at h; subst h
    exact ⟨⟨h2.1, fun k => absurd k (by show ¬ nm 4 ≤ 0; decide)⟩, ⟨h1.1, fun k => absurd k (by show ¬ nm 4 ≤ 1; decide)⟩, ⟨he, fun k => absurd k (by show ¬ nm 4 ≤ 2; decide)⟩⟩
theorem endP_ok {s : Sg} (hf : fits s) : ptOK (endP s) := by
  obtain ⟨h1, h2, h3⟩ := hf
  unfold endP
  split
  · exact h3.1
  · split
    · exact h2.1
    · exact h1.1
theorem move_eq {m : Sg} (hm : m.v = 1) (hf : fits m) : m = ⟨1, endP m, zp, zp⟩ := by
  obtain ⟨v, a, b, c⟩ := m
  dsimp only at hm; subst hm
  obtain ⟨_, h2, h3⟩ := hf
  have hb : b = zp := h2.2 (by show nm 1 ≤ 1; decide)
  have hc : c = zp := h3.2 (by show nm 1 ≤ 2; decide)
  subst hb; subst hc; rfl

def lastE (p : Sg) (r : List Sg) : Pt := endP (r.getLastD p)
theorem lastE_cons (p s : Sg) (r : List Sg) : lastE p (s :: r) = lastE s r := by unfold lastE; rw [List.getLastD_cons]
theorem lastE_snoc (p z : Sg) (r : List Sg) : lastE p (r ++ [z]) = endP z := by unfold lastE; simp
theorem backs_snoc (z : Sg) : ∀ (X : List Sg) (q : Sg), backs q (X ++ [z]) = backS z (lastE q X) :: backs q X
  | [], q => rfl
  | x :: X, q => by
    show backs x (X ++ [z]) ++ [backS x (endP q)] = _
    rw [backs_snoc z X x, lastE_cons]; rfl
theorem backs_backs : ∀ (r : List Sg) (p q : Sg), (∀ s ∈ r, midV s ∧ fits s) → endP q = lastE p r → backs q (backs p r) = r ∧ lastE q (backs p r) = endP p
  | [], p, q, _, he => ⟨rfl, he⟩
  | s :: r, p, q, h, he => by
    rw [lastE_cons] at he
    obtain ⟨i1, i2⟩ := backs_backs r s q (fun t ht => h t (.tail _ ht)) he
    obtain ⟨h1, h2⟩ := h s (.head _)
    show backs q (backs s r ++ [backS s (endP p)]) = _ ∧ lastE q (backs s r ++ [backS s (endP p)]) = _
    rw [backs_snoc, lastE_snoc, i1, i2, back_back h1 h2, endP_back h1]
    exact ⟨rfl, rfl⟩
theorem backs_mem : ∀ (r : List Sg) (p : Sg), fits p → (∀ s ∈ r, midV s ∧ fits s) → ∀ s ∈ backs p r, midV s ∧ fits s
  | [], _, _, _, s, hs => by cases hs
  | t :: r, p, hp, h, s, hs => by
    obtain ⟨h1, h2⟩ := h t (.head _)
    rcases List.mem_append.1 hs with hs | hs
    · exact backs_mem r t h2 (fun u hu => h u (.tail _ hu)) s hs
    · simp at hs; subst hs
      exact ⟨back_midV h1 _, back_fits h1 h2 (endP_ok hp)⟩

theorem turnB_turnB {m : Sg} {mid : List Sg} (hm : m.v = 1) (hf : fits m) (h : ∀ s ∈ mid, midV s ∧ fits s) : turnB (turnB (m :: mid)) = m :: mid := by
  obtain ⟨h1, h2⟩ := backs_backs mid m ⟨1, lastE m mid, zp, zp⟩ h rfl
  show (⟨1, lastE ⟨1, lastE m mid, zp, zp⟩ (backs m mid), zp, zp⟩ : Sg) :: backs ⟨1, lastE m mid, zp, zp⟩ (backs m mid) = _
  rw [h1, h2, ← move_eq hm hf]

theorem close_eq {c : Sg} (hc : c.v = 5) (hf : fits c) : c = closeS := by
  obtain ⟨v, a, b, d⟩ := c
  dsimp only at hc; subst hc
  obtain ⟨h1, h2, h3⟩ := hf
  have ha : a = zp := h1.2 (by show nm 5 ≤ 0; decide)
  have hb : b = zp := h2.2 (by show nm 5 ≤ 1; decide)
  have hd : d = zp := h3.2 (by show nm 5 ≤ 2; decide)
  subst ha; subst hb; subst hd; rfl
theorem close_fits : fits closeS := by decide

theorem lastE_ok {m : Sg} {mid : List Sg} (hf : fits m) (h : ∀ s ∈ mid, midV s ∧ fits s) : ptOK (lastE m mid) := by
  unfold lastE
  rcases List.eq_nil_or_concat mid with rfl | ⟨r, z, rfl⟩
  · exact endP_ok hf
  · rw [List.concat_eq_append] at h ⊢
    have : (r ++ [z]).getLastD m = z := by simp
    rw [this]
    exact endP_ok (h z (by simp)).2

theorem turn_grp {g : List Sg} {k : Int} (h : Grp g k) : (∃ k', Grp (turnG g) k') ∧ turnG (turnG g) = g := by
  obtain ⟨m, mid, g1, g2, g3, g4⟩ := h
  have hh : ∀ (hg : ∀ s ∈ m :: mid, s ∈ g), (fits m ∧ ∀ s ∈ mid, midV s ∧ fits s) := fun hg => ⟨g3 m (hg m (.head _)), fun s hs => ⟨g2 s hs, g3 s (hg s (.tail _ hs))⟩⟩
  have key : (fits m ∧ ∀ s ∈ mid, midV s ∧ fits s) → (fits ⟨1, lastE m mid, zp, zp⟩ ∧ ∀ s ∈ backs m mid, midV s ∧ fits s) := fun ⟨k1, k2⟩ =>
    ⟨⟨⟨lastE_ok k1 k2, fun k => absurd k (by show ¬ nm 1 ≤ 0; decide)⟩, ⟨zp_ok, fun _ => rfl⟩, ⟨zp_ok, fun _ => rfl⟩⟩, backs_mem mid m k1 k2⟩
  rcases g4 with ⟨rfl, g5, g6⟩ | ⟨c, rfl, hc, _, hne⟩
  · obtain ⟨k1, k2⟩ := hh fun s hs => hs
    obtain ⟨k3, k4⟩ := key ⟨k1, k2⟩
    rw [turnG_open g1 g2]
    have e : turnB (m :: mid) = ⟨1, lastE m mid, zp, zp⟩ :: backs m mid := rfl
    refine ⟨⟨if backs m mid = [] then 1 else 2, ⟨1, lastE m mid, zp, zp⟩, backs m mid, rfl, fun s hs => (k4 s hs).1, fun s hs => ?_, .inl ⟨e, by split <;> decide, fun h => by rw [if_pos h]⟩⟩, ?_⟩
    · rw [e] at hs
      rcases List.mem_cons.1 hs with rfl | hs
      · exact k3
      · exact (k4 s hs).2
    · rw [e, turnG_open rfl fun s hs => (k4 s hs).1, ← e]
      exact turnB_turnB g1 k1 k2
  · obtain ⟨k1, k2⟩ := hh fun s hs => List.mem_append_left _ hs
    obtain ⟨k3, k4⟩ := key ⟨k1, k2⟩
    have hcf := g3 c (by simp)
    rw [turnG_closed hc]
    have e : turnB (m :: mid) = ⟨1, lastE m mid, zp, zp⟩ :: backs m mid := rfl
    refine ⟨⟨5, ⟨1, lastE m mid, zp, zp⟩, backs m mid, rfl, fun s hs => (k4 s hs).1, fun s hs => ?_, .inr ⟨closeS, by rw [e], rfl, rfl, fun h => ?_⟩⟩, ?_⟩
    · rcases List.mem_append.1 hs with hs | hs
      · rw [e] at hs
        rcases List.mem_cons.1 hs with rfl | hs
        · exact k3
        · exact (k4 s hs).2
      · simp at hs; subst hs; exact close_fits
    · have := congrArg List.length h
      rw [backs_len] at this
      exact hne (List.eq_nil_of_length_eq_zero this)
    · rw [e, turnG_closed rfl, ← e, turnB_turnB g1 k1 k2, ← close_eq hc hcf]

theorem fold_rest : ∀ (t : List Sg) (A : List (List Sg)) (h : List Sg), (∀ s ∈ t, s.v ≠ 1) → t.foldl addSub (A ++ [h]) = A ++ [h ++ t]
  | [], A, h, _ => by simp
  | s :: t, A, h, hs => by
    rw [List.foldl_cons]
    have : addSub (A ++ [h]) s = A ++ [h ++ [s]] := by unfold addSub; rw [if_neg (hs s (.head _))]; simp
    rw [this, fold_rest t A (h ++ [s]) (fun u hu => hs u (.tail _ hu))]; simp
theorem fold_grp {g : List Sg} {k : Int} (h : Grp g k) (A : List (List Sg)) : g.foldl addSub A = A ++ [g] := by
  obtain ⟨m, mid, g1, g2, _, g4⟩ := h
  have hm : addSub A m = A ++ [[m]] := by unfold addSub; rw [if_pos g1]
  have hmid : ∀ s ∈ mid, s.v ≠ 1 := fun s hs => by have := g2 s hs; unfold midV at this; omega
  rcases g4 with ⟨rfl, _⟩ | ⟨c, rfl, hc, _⟩
  · rw [List.foldl_cons, hm, fold_rest mid A [m] hmid]; rfl
  · rw [List.cons_append, List.foldl_cons, hm, fold_rest (mid ++ [c]) A [m] (fun s hs => by
      rcases List.mem_append.1 hs with hs | hs
      · exact hmid s hs
      · simp at hs; subst hs; omega)]; rfl
theorem subs_of : ∀ (S : List (List Sg)), (∀ g ∈ S, ∃ k, Grp g k) → ∀ A, S.flatten.foldl addSub A = A ++ S
  | [], _, A => by simp
  | g :: S, h, A => by
    obtain ⟨k, hk⟩ := h g (.head _)
    rw [List.flatten_cons, List.foldl_append, fold_grp hk, subs_of S (fun x hx => h x (.tail _ hx))]; simp
theorem subs_flatten {S : List (List Sg)} (h : ∀ g ∈ S, ∃ k, Grp g k) : subs S.flatten = S := by
  unfold subs; rw [subs_of S h]; rfl

theorem err0 {last : Int} {s : Sg} (h1 : 0 ≤ nm s.v) (h2 : stands last s.v) (h3 : fits s) : errAt last s = 0 := errAt_zero.2 ⟨h1, h2, h3⟩
theorem mid_oks : ∀ (mid : List Sg) (last : Int) (r : List Sg), last ≠ 5 → (∀ s ∈ mid, midV s ∧ fits s) → (∀ last', last' ≠ 5 → (mid ≠ [] → last' ≠ 1) → (mid = [] → last' = last) → oks last' r) → oks last (mid ++ r)
  | [], last, r, h5, _, hr => hr last h5 (fun h => absurd rfl h) (fun _ => rfl)
  | s :: mid, last, r, h5, h, hr => by
    obtain ⟨h1, h2⟩ := h s (.head _)
    have hv : s.v ≠ 5 ∧ s.v ≠ 1 := by unfold midV at h1; omega
    refine ⟨err0 ?_ (.inr ⟨h5, .inl hv.1⟩) h2, mid_oks mid s.v r hv.1 (fun t ht => h t (.tail _ ht)) fun last' k1 k2 k3 => hr last' k1 (fun _ => ?_) (fun e => by cases e)⟩
    · have := verb_nm (s := s) (.inr h1); omega
    · by_cases e : mid = []
      · rw [k3 e]; exact hv.2
      · exact k2 e
theorem grp_oks {g : List Sg} {k : Int} (h : Grp g k) {r : List Sg} (hr : ∀ last, oks last r) (last : Int) : oks last (g ++ r) := by
  obtain ⟨m, mid, g1, g2, g3, g4⟩ := h
  have nm1 : 0 ≤ nm m.v := by rw [g1]; decide
  rcases g4 with ⟨rfl, _⟩ | ⟨c, rfl, hc, _, hne⟩
  · refine ⟨err0 nm1 (.inl g1) (g3 m (.head _)), ?_⟩
    exact mid_oks mid m.v r (by omega) (fun s hs => ⟨g2 s hs, g3 s (.tail _ hs)⟩) fun last' _ _ _ => hr last'
  · rw [List.append_assoc]
    refine ⟨err0 nm1 (.inl g1) (g3 m (.head _)), ?_⟩
    refine mid_oks mid m.v ([c] ++ r) (by omega) (fun s hs => ⟨g2 s hs, g3 s (List.mem_append_left _ (.tail _ hs))⟩) fun last' k1 k2 _ => ?_
    exact ⟨err0 (by rw [hc]; decide) (.inr ⟨k1, .inr (k2 hne)⟩) (g3 c (by simp)), hr _⟩
theorem flat_oks : ∀ (S : List (List Sg)), (∀ g ∈ S, ∃ k, Grp g k) → ∀ last, oks last S.flatten
  | [], _, _ => trivial
  | g :: S, h, last => by
    obtain ⟨k, hk⟩ := h g (.head _)
    exact grp_oks hk (flat_oks S fun x hx => h x (.tail _ hx)) last

def revL (l : List Sg) : List Sg := (subs l).flatMap turnG
theorem map_grp {l : List Sg} (h : valid l) : ∀ g ∈ (subs l).map turnG, ∃ k, Grp g k := fun g hg => by
  obtain ⟨x, hx, rfl⟩ := List.mem_map.1 hg
  obtain ⟨k, hk⟩ := subs_grp h x hx
  exact (turn_grp hk).1
theorem revL_len {l : List Sg} (h : valid l) : (revL l).length = l.length := by
  unfold revL; rw [flatMap_len (subs_grp h), subs_flat]
theorem revL_subs {l : List Sg} (h : valid l) : subs (revL l) = (subs l).map turnG := by
  unfold revL; rw [List.flatMap_def]; exact subs_flatten (map_grp h)
theorem revL_valid {l : List Sg} (h : valid l) : valid (revL l) := by
  refine valid_iff.2 ⟨by rw [revL_len h]; exact valid_len h, ?_⟩
  unfold revL; rw [List.flatMap_def]; exact flat_oks _ (map_grp h) 5
theorem revL_revL {l : List Sg} (h : valid l) : revL (revL l) = l := by
  show (subs (revL l)).flatMap turnG = l
  rw [revL_subs h, List.flatMap_def, List.map_map]
  have : (subs l).map (turnG ∘ turnG) = subs l := by
    conv => rhs; rw [← List.map_id (subs l)]
    refine List.map_congr_left fun g hg => ?_
    obtain ⟨k, hk⟩ := subs_grp h g hg
    exact (turn_grp hk).2
  rw [this, subs_flat]
theorem revL_cnt {l : List Sg} (h : valid l) : cntV (revL l) = cntV l := by
  unfold cntV
  rw [if_pos (revL_valid h), if_pos h, ← subs_len (revL_valid h), ← subs_len h, revL_subs h, List.length_map]

theorem backs_pts : ∀ (r : List Sg) (p : Sg), (∀ s ∈ r, midV s) → lastE p r :: allPts (backs p r) = (endP p :: allPts r).reverse
  | [], p, _ => rfl
  | s :: r, p, h => by
    have ih := backs_pts r s (fun t ht => h t (.tail _ ht))
    have hs : endP s :: ptsOf (backS s (endP p)) = (ptsOf s).reverse ++ [endP p] := by
      have h0 := h s (.head _)
      obtain ⟨v, a, b, c⟩ := s
      rcases h0 with h0 | h0 | h0 <;> (dsimp only at h0; subst h0; rfl)
    rw [lastE_cons]
    have e1 : allPts (backs p (s :: r)) = allPts (backs s r) ++ ptsOf (backS s (endP p)) := by
      show allPts (backs s r ++ [backS s (endP p)]) = _
      unfold allPts; simp
    have e2 : allPts (s :: r) = ptsOf s ++ allPts r := rfl
    rw [e1, e2, ← List.cons_append, ih, List.reverse_cons, List.append_assoc, List.singleton_append, hs]
    simp
theorem turnB_pts {m : Sg} {mid : List Sg} (hm : m.v = 1) (h : ∀ s ∈ mid, midV s) : allPts (turnB (m :: mid)) = (allPts (m :: mid)).reverse := by
  have e1 : allPts (turnB (m :: mid)) = lastE m mid :: allPts (backs m mid) := rfl
  have e2 : allPts (m :: mid) = endP m :: allPts mid := by
    obtain ⟨v, a, b, c⟩ := m
    dsimp only at hm; subst hm; rfl
  rw [e1, e2, backs_pts mid m h]
theorem turnG_pts {g : List Sg} {k : Int} (h : Grp g k) : allPts (turnG g) = (allPts g).reverse := by
  obtain ⟨m, mid, g1, g2, _, g4⟩ := h
  rcases g4 with ⟨rfl, _⟩ | ⟨c, rfl, hc, _⟩
  · rw [turnG_open g1 g2, turnB_pts g1 g2]
  · have close : ∀ (b : List Sg) (c : Sg), c.v = 5 → allPts (b ++ [c]) = allPts b := fun b c hc => by
      have : ptsOf c = [] := by unfold ptsOf; rw [hc]; rfl
      unfold allPts; simp [this]
    rw [turnG_closed hc, close _ _ rfl, turnB_pts g1 g2, close _ _ hc]
theorem allPts_flat (S : List (List Sg)) : allPts S.flatten = S.flatMap allPts := by
  unfold allPts; induction S with
  | nil => rfl
  | cons a r ih => simp [List.flatMap_append, ih]
theorem revL_mem {l : List Sg} (h : valid l) (p : Pt) : p ∈ allPts (revL l) ↔ p ∈ allPts l := by
  have e : allPts l = (subs l).flatMap allPts := by rw [← allPts_flat, subs_flat]
  rw [e]
  unfold revL
  rw [List.flatMap_def, allPts_flat]
  simp only [List.mem_flatMap, List.mem_map]
  constructor
  · rintro ⟨_, ⟨g, hg, rfl⟩, hp⟩
    obtain ⟨k, hk⟩ := subs_grp h g hg
    rw [turnG_pts hk] at hp
    exact ⟨g, hg, by simpa using hp⟩
  · rintro ⟨g, hg, hp⟩
    obtain ⟨k, hk⟩ := subs_grp h g hg
    exact ⟨turnG g, ⟨g, hg, rfl⟩, by rw [turnG_pts hk]; simpa using hp⟩

theorem fold_mn : ∀ (q : List Pt) (p : Pt), ((q.foldl mnP p).x ≤ p.x ∧ (q.foldl mnP p).y ≤ p.y) ∧ (∀ r ∈ q, (q.foldl mnP p).x ≤ r.x ∧ (q.foldl mnP p).y ≤ r.y) ∧
    ((q.foldl mnP p).x = p.x ∨ ∃ r ∈ q, (q.foldl mnP p).x = r.x) ∧ ((q.foldl mnP p).y = p.y ∨ ∃ r ∈ q, (q.foldl mnP p).y = r.y)
  | [], p => ⟨⟨Int.le_refl _, Int.le_refl _⟩, fun r hr => (by cases hr), .inl rfl, .inl rfl⟩
  | a :: q, p => by
    obtain ⟨h1, h2, h3, h4⟩ := fold_mn q (mnP p a)
    rw [List.foldl_cons]
    have e1 : (mnP p a).x = min p.x a.x := rfl
    have e2 : (mnP p a).y = min p.y a.y := rfl
    refine ⟨⟨by omega, by omega⟩, fun r hr => ?_, ?_, ?_⟩
    · rcases List.mem_cons.1 hr with rfl | hr
      · exact ⟨by omega, by omega⟩
      · exact h2 r hr
    · rcases h3 with h3 | ⟨r, hr, h3⟩
      · rcases Int.le_total p.x a.x with h | h
        · exact .inl (by omega)
        · exact .inr ⟨a, .head _, by omega⟩
      · exact .inr ⟨r, .tail _ hr, h3⟩
    · rcases h4 with h4 | ⟨r, hr, h4⟩
      · rcases Int.le_total p.y a.y with h | h
        · exact .inl (by omega)
        · exact .inr ⟨a, .head _, by omega⟩
      · exact .inr ⟨r, .tail _ hr, h4⟩
theorem fold_mx : ∀ (q : List Pt) (p : Pt), (p.x ≤ (q.foldl mxP p).x ∧ p.y ≤ (q.foldl mxP p).y) ∧ (∀ r ∈ q, r.x ≤ (q.foldl mxP p).x ∧ r.y ≤ (q.foldl mxP p).y) ∧
    ((q.foldl mxP p).x = p.x ∨ ∃ r ∈ q, (q.foldl mxP p).x = r.x) ∧ ((q.foldl mxP p).y = p.y ∨ ∃ r ∈ q, (q.foldl mxP p).y = r.y)
  | [], p => ⟨⟨Int.le_refl _, Int.le_refl _⟩, fun r hr => (by cases hr), .inl rfl, .inl rfl⟩
  | a :: q, p => by
    obtain ⟨h1, h2, h3, h4⟩ := fold_mx q (mxP p a)
    rw [List.foldl_cons]
    have e1 : (mxP p a).x = max p.x a.x := rfl
    have e2 : (mxP p a).y = max p.y a.y := rfl
    refine ⟨⟨by omega, by omega⟩, fun r hr => ?_, ?_, ?_⟩
    · rcases List.mem_cons.1 hr with rfl | hr
      · exact ⟨by omega, by omega⟩
      · exact h2 r hr
    · rcases h3 with h3 | ⟨r, hr, h3⟩
      · rcases Int.le_total p.x a.x with h | h
        · exact .inr ⟨a, .head _, by omega⟩
        · exact .inl (by omega)
      · exact .inr ⟨r, .tail _ hr, h3⟩
    · rcases h4 with h4 | ⟨r, hr, h4⟩
      · rcases Int.le_total p.y a.y with h | h
        · exact .inr ⟨a, .head _, by omega⟩
        · exact .inl (by omega)
      · exact .inr ⟨r, .tail _ hr, h4⟩

theorem pt_ext {p q : Pt} (h1 : p.x = q.x) (h2 : p.y = q.y) : p = q := by cases p; cases q; simp_all
/-- The bounds hang on which points there are. -/
theorem bnd_mem {q q' : List Pt} (h : ∀ p, p ∈ q ↔ p ∈ q') : bnd mnP q = bnd mnP q' ∧ bnd mxP q = bnd mxP q' := by
  cases q with
  | nil =>
    have : q' = [] := by
      cases q' with
      | nil => rfl
      | cons a r => exact absurd ((h a).2 (.head _)) (by simp)
    subst this; exact ⟨rfl, rfl⟩
  | cons a r =>
    cases q' with
    | nil => exact absurd ((h a).1 (.head _)) (by simp)
    | cons b s =>
      obtain ⟨a1, a2, a3, a4⟩ := fold_mn (a :: r) a
      obtain ⟨b1, b2, b3, b4⟩ := fold_mn (b :: s) b
      obtain ⟨c1, c2, c3, c4⟩ := fold_mx (a :: r) a
      obtain ⟨d1, d2, d3, d4⟩ := fold_mx (b :: s) b
      have in1 : ∀ p ∈ a :: r, p ∈ b :: s := fun p hp => (h p).1 hp
      have in2 : ∀ p ∈ b :: s, p ∈ a :: r := fun p hp => (h p).2 hp
      have A : ∀ {P : Pt → Prop}, (P a ∨ ∃ t ∈ a :: r, P t) → ∃ t ∈ a :: r, P t := fun h => h.elim (fun h => ⟨a, .head _, h⟩) id
      have B : ∀ {P : Pt → Prop}, (P b ∨ ∃ t ∈ b :: s, P t) → ∃ t ∈ b :: s, P t := fun h => h.elim (fun h => ⟨b, .head _, h⟩) id
      obtain ⟨a5, ha5, e1⟩ := A (P := fun t => ((a :: r).foldl mnP a).x = t.x) a3
      obtain ⟨a6, ha6, e2⟩ := A (P := fun t => ((a :: r).foldl mnP a).y = t.y) a4
      obtain ⟨b5, hb5, e3⟩ := B (P := fun t => ((b :: s).foldl mnP b).x = t.x) b3
      obtain ⟨b6, hb6, e4⟩ := B (P := fun t => ((b :: s).foldl mnP b).y = t.y) b4
      obtain ⟨c5, hc5, e5⟩ := A (P := fun t => ((a :: r).foldl mxP a).x = t.x) c3
      obtain ⟨c6, hc6, e6⟩ := A (P := fun t => ((a :: r).foldl mxP a).y = t.y) c4
      obtain ⟨d5, hd5, e7⟩ := B (P := fun t => ((b :: s).foldl mxP b).x = t.x) d3
      obtain ⟨d6, hd6, e8⟩ := B (P := fun t => ((b :: s).foldl mxP b).y = t.y) d4
      constructor
      · have := (a2 b5 (in2 _ hb5)).1
        have := (b2 a5 (in1 _ ha5)).1
        have := (a2 b6 (in2 _ hb6)).2
        have := (b2 a6 (in1 _ ha6)).2
        exact pt_ext (show ((a :: r).foldl mnP a).x = ((b :: s).foldl mnP b).x by omega) (show ((a :: r).foldl mnP a).y = ((b :: s).foldl mnP b).y by omega)
      · have := (c2 d5 (in2 _ hd5)).1
        have := (d2 c5 (in1 _ hc5)).1
        have := (c2 d6 (in2 _ hd6)).2
        have := (d2 c6 (in1 _ hc6)).2
        exact pt_ext (show ((a :: r).foldl mxP a).x = ((b :: s).foldl mxP b).x by omega) (show ((a :: r).foldl mxP a).y = ((b :: s).foldl mxP b).y by omega)

theorem bounds_mem {l m : List Sg} (hl : valid l) (hm : valid m) (h : ∀ p, p ∈ allPts m ↔ p ∈ allPts l) : loOf m = loOf l ∧ hiOf m = hiOf l ∧ (some? m ↔ some? l) := by
  obtain ⟨h1, h2⟩ := bnd_mem h
  unfold loOf hiOf some?
  rw [if_pos hl, if_pos hm, if_pos hl, if_pos hm]
  have ne : allPts m ≠ [] ↔ allPts l ≠ [] := by
    constructor
    · intro k e
      obtain ⟨p, hp⟩ := List.exists_mem_of_ne_nil _ k
      have := (h p).1 hp; rw [e] at this; cases this
    · intro k e
      obtain ⟨p, hp⟩ := List.exists_mem_of_ne_nil _ k
      have := (h p).2 hp; rw [e] at this; cases this
  exact ⟨h1, h2, ⟨fun k => ⟨hl, ne.1 k.2⟩, fun k => ⟨hm, ne.2 k.2⟩⟩⟩

theorem c_reverse_bad {l : List Sg} (h : ¬ valid l) : CallsG Tryz.prog 10 [.sl sgE l] [] (.tup [.own 0, i64 10]) [(0, .arr 44 sgE 7 [])] := by
  have := c_reverse l
  rw [show rev l = ([], 10) from if_neg h] at this; exact this
theorem c_reverse_ok {l : List Sg} (h : valid l) : CallsG Tryz.prog 10 [.sl sgE l] [] (.tup [.own 0, i64 0]) [(0, .arr 44 sgE 7 (revL l))] := by
  have := c_reverse l
  rw [show rev l = (revL l, 0) from if_pos h] at this; exact this

end Go.Gs
