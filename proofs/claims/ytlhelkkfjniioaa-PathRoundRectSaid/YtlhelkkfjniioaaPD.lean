/- A path in its subpaths. -/
import Derived.Test.YtlhelkkfjniioaaPC
namespace Go.Gs
open Go.Proofs

def addSub (out : List (List Sg)) (s : Sg) : List (List Sg) := if s.v = 1 then out ++ [[s]] else out.dropLast ++ [out.getLastD [] ++ [s]]
def subs (l : List Sg) : List (List Sg) := l.foldl addSub []
theorem subs_take {l : List Sg} {i : Nat} {x : Sg} (h : l[i]? = some x) : subs (l.take (i + 1)) = addSub (subs (l.take i)) x := by
  unfold subs
  rw [List.take_add_one, h]
  simp [List.foldl_append]

def slE (xs : List Sg) : List SV := [.sl sgE xs]

theorem last_at {α : Type _} {A : List α} {z y : α} {n : Nat} (h : (A ++ [z])[n]? = some y) (hn : n = A.length) : y = z := by
  subst hn
  simp at h
  exact h.symm
theorem set_last {α : Type _} {A : List α} {z w : α} {n : Nat} (hn : n = A.length) : (A ++ [z]).set n w = A ++ [w] := by
  subst hn
  simp

theorem gren {tb : List (Nat × Option Nat)} {cl : List (List Sg)} {a b : Nat} (h : nmOf tb b = some (some a)) :
    (cl.map slE ++ [[SV.own a]]).length = (cl.map slE ++ [[SV.own b]]).length ∧ ∀ (i : Nat) x, (cl.map slE ++ [[SV.own b]])[i]? = some x → ∃ x', (cl.map slE ++ [[SV.own a]])[i]? = some x' ∧ ren.rens tb x = some x' := by
  refine ⟨by simp, fun i x hx => ?_⟩
  rw [List.getElem?_append] at hx
  split at hx
  · rename_i hi
    rw [List.getElem?_map] at hx
    cases hy : cl[i]? with
    | none => simp [hy] at hx
    | some y =>
      simp [hy] at hx; subst hx
      exact ⟨slE y, by rw [List.getElem?_append_left hi, List.getElem?_map, hy]; rfl, rfl⟩
  · rename_i hi
    have h0 : i - (cl.map slE).length = 0 := by
      have := (List.getElem?_eq_some_iff.1 hx).1
      simp at this; simp at hi ⊢; omega
    rw [h0] at hx
    simp at hx; subst hx
    refine ⟨[.own a], by rw [List.getElem?_append_right (by omega), h0]; rfl, ?_⟩
    simp only [ren.rens, ren, h]

theorem frz_tail {cl : List (List Sg)} {last : List Sg} {a : Nat} (T : List (List SV)) :
    ∀ (i j : Nat) (x' : List SV) (s' : SV), ((cl ++ [last]).map slE ++ T)[i]? = some x' → x'[j]? = some s' → ∃ (x : List SV) (s : SV), (cl.map slE ++ [[SV.own a]] ++ T)[i]? = some x ∧ x[j]? = some s ∧ (s' = s ∨ (s = .own a ∧ s' = .sl sgE last)) := by
  intro i j x' s' hx hs
  rw [List.map_append] at hx
  have e : ∀ (L : List (List SV)), L = cl.map slE → ((L ++ [last].map slE) ++ T)[i]? = some x' → ∃ (x : List SV) (s : SV), (L ++ [[SV.own a]] ++ T)[i]? = some x ∧ x[j]? = some s ∧ (s' = s ∨ (s = .own a ∧ s' = .sl sgE last)) := by
    intro L _ hx
    rcases Nat.lt_trichotomy i L.length with h | h | h
    · rw [List.append_assoc, List.getElem?_append_left h] at hx
      exact ⟨x', s', by rw [List.append_assoc, List.getElem?_append_left h]; exact hx, hs, .inl rfl⟩
    · subst h
      rw [List.append_assoc, List.getElem?_append_right (Nat.le_refl _)] at hx
      simp at hx; subst hx
      cases j with
      | zero => simp [slE] at hs; subst hs; exact ⟨[.own a], .own a, by simp, rfl, .inr ⟨rfl, rfl⟩⟩
      | succ j => simp [slE] at hs
    · rw [List.getElem?_append_right (by simp; omega)] at hx
      refine ⟨x', s', ?_, hs, .inl rfl⟩
      rw [List.getElem?_append_right (by simp; omega)]
      rw [← hx]; congr 1; simp
  exact e _ rfl hx

set_option maxRecDepth 100000 in
theorem c_subpaths (l : List Sg) (h0 : ∀ x, l[0]? = some x → x.v = 1) (hlen : l.length ≤ 256) :
    CallsG Try.prog 47 [.sl sgE l] [] (.own 0) [(0, .arr 22 slE 1 (subs l))] := by
  refine calls_own_sub tok mix Try.func47 rfl rfl rfl ?_
  intro hl
  refine ⟨Nat × Option (List (List Sg) × List Sg), fun q => match q with
      | (i, none) => ⟨[(8, i64 i), (7, i64 l.length), (6, .sl sgE l), (3, .val (.slice none 0 0))], [], 0, 34, 0⟩
      | (i, some (cl, last)) => ⟨[(8, i64 i), (7, i64 l.length), (6, .sl sgE l), (3, .own 0)], [(0, .garr 22 1 (cl.map slE ++ [[.own 1]])), (1, .arr 62 sgE 7 last)], 2, 34, 0⟩,
    fun q => match q with
      | (i, none) => i = 0
      | (i, some (cl, last)) => i ≤ l.length ∧ subs (l.take i) = cl ++ [last] ∧ cl.length < i ∧ last.length ≤ i, fun q => l.length - q.1, (0, none), rfl, ?_, ?_⟩
  · exact sub_of [] rfl rfl rfl ⟨rfl, rfl, rfl, rfl, trivial⟩ trivial
  rintro ⟨i, _ | ⟨cl, last⟩⟩ hI
  · have hI : i = 0 := hI
    subst hI
    refine Br.mk (fun h1 => ?_) (fun h1 => ?_)
    · have h1 : (0 : Int) < l.length := h1
      refine Ob.mk ⟨by decide, h1⟩ ?_
      intro x hx
      have hx : l[0]? = some x := hx
      refine Br.mk (fun _ => ?_) (fun h => absurd (h0 x hx) h)
      refine ⟨Unit, fun _ => [.val (.slice none 0 0)], [()], rfl, Ob.mk ⟨rfl, by decide, by decide, by decide, fun x _ => ⟨rfl, rfl, rfl⟩⟩ ?_⟩
      refine ⟨_, _, _, rfl, Ob.mk ⟨by decide, by decide, by decide, fun _ _ => rfl⟩ ?_⟩
      refine Dr.dyn (Ob.mk (by decide +kernel) ?_)
      intro _
      refine Ar.fit (by decide) ?_
      intro _
      refine Ar.fit (by decide) ?_
      refine Ob.mk (by decide) ?_
      refine Ob.mk (by decide) ?_
      intro y hy
      refine ⟨Sg, sgE, [x], rfl, Ob.mk ⟨rfl, by decide, by decide, by decide, fun x _ => ⟨rfl, rfl, rfl⟩⟩ ?_⟩
      refine ⟨_, _, _, rfl, Ob.mk ⟨(by show ((1 : Nat) : Int) * (56 : Int) ≤ 140737488355328; decide), (by show 1 ≤ 281474976710656; decide), by decide, fun _ _ => rfl⟩ ?_⟩
      refine Ob.mk (by decide) ?_
      refine Ob.mk (by decide) ?_
      intro y' hy'
      refine Ob.mk (by kernel_rfl) ?_
      refine Ar.fit (by decide) ?_
      refine ⟨(1, some ([], [x])), ⟨by omega, ?_, by decide, Nat.le_refl _⟩, sub_of [(0, some 2), (1, some 4)] rfl rfl rfl ⟨rfl, rfl, rfl, rfl, trivial⟩ ⟨⟨_, rfl, gren (cl := []) rfl⟩, rfl, trivial⟩, by show l.length - 1 < l.length - 0; omega⟩
      have := subs_take hx
      rw [this]; unfold addSub; rw [if_pos (h0 x hx)]; rfl
    · have h1 : ¬ (0 : Int) < l.length := h1
      have hl0 : l = [] := List.eq_nil_of_length_eq_zero (by omega)
      exact ⟨_, .refl, none, .nil rfl, by rw [hl0]; rfl⟩
  · obtain ⟨k1, k2, k3, k4⟩ : i ≤ l.length ∧ subs (l.take i) = cl ++ [last] ∧ cl.length < i ∧ last.length ≤ i := hI
    refine Br.mk (fun h1 => ?_) (fun h1 => ?_)
    · have h1 : (i : Int) < l.length := h1
      refine Ob.mk ⟨by omega, h1⟩ ?_
      intro x hx
      have hx : l[i]? = some x := hx
      have hsu := subs_take hx
      rw [k2] at hsu
      refine Br.mk (fun hv => ?_) (fun hv => ?_)
      · refine ⟨Unit, fun _ => [.val (.slice none 0 0)], [()], rfl, Ob.mk ⟨rfl, by decide, by decide, by decide, fun x _ => ⟨rfl, rfl, rfl⟩⟩ ?_⟩
        refine ⟨_, _, _, rfl, Ob.mk ⟨(by simp only [List.length_append, List.length_map, List.length_cons, List.length_nil]; show _ * (24 : Int) ≤ _; omega), (by simp only [List.length_append, List.length_map, List.length_cons, List.length_nil]; omega), by decide, fun _ _ => rfl⟩ ?_⟩
        generalize hA : cl.map slE ++ [[SV.own 1]] = A
        have hAl : A.length = cl.length + 1 := by rw [← hA]; simp
        refine Dr.dyn (Ob.mk (by decide +kernel) ?_)
        intro _
        refine Ar.fit (by simp only [List.length_append, List.length_map, List.length_cons, List.length_nil]; omega) ?_
        intro _
        refine Ar.fit (by simp only [List.length_append, List.length_map, List.length_cons, List.length_nil]; omega) ?_
        refine Ob.mk (by simp only [List.length_append, List.length_map, List.length_cons, List.length_nil]; omega) ?_
        refine Ob.mk (by simp only [List.length_append, List.length_map, List.length_cons, List.length_nil]; omega) ?_
        intro y hy
        have hn : (((A ++ [()].map fun _ => [SV.val (.slice none 0 0)]).length : Int) - 1).toNat = A.length := by simp only [List.length_append, List.length_map, List.length_cons, List.length_nil]; omega
        obtain rfl := last_at (A := A) (z := [SV.val (.slice none 0 0)]) hy hn
        refine ⟨Sg, sgE, [x], rfl, Ob.mk ⟨rfl, by decide, by decide, by decide, fun x _ => ⟨rfl, rfl, rfl⟩⟩ ?_⟩
        refine ⟨_, _, _, rfl, Ob.mk ⟨(by show ((1 : Nat) : Int) * (56 : Int) ≤ 140737488355328; decide), (by show 1 ≤ 281474976710656; decide), by decide, fun _ _ => rfl⟩ ?_⟩
        refine Ob.mk (by simp only [List.length_append, List.length_map, List.length_cons, List.length_nil]; omega) ?_
        refine Ob.mk (by simp only [List.length_append, List.length_map, List.length_cons, List.length_nil]; omega) ?_
        intro y' hy'
        obtain rfl := last_at (A := A) (z := [SV.val (.slice none 0 0)]) hy' hn
        refine Ob.mk (by kernel_rfl) ?_
        refine Ar.fit (by omega) ?_
        have hset : (A ++ [()].map fun _ => [SV.val (.slice none 0 0)]).set (((A ++ [()].map fun _ => [SV.val (.slice none 0 0)]).length : Int) - 1).toNat [SV.own 6] = cl.map slE ++ [[SV.own 1]] ++ [[SV.own 6]] := by
          rw [hA]; exact set_last hn
        refine ⟨(i + 1, some (cl ++ [last], [x])), ⟨by omega, ?_, ?_, ?_⟩, (sub_frz (sz0 := 1) (T0 := 22) 1 4 (enc := sgE) (ys := last) rfl (by exact congrArg (fun q => some (Mem.garr 22 1 q)) hset) (xs' := (cl ++ [last]).map slE ++ [[SV.own 6]]) (by simp) (fun z hz => ?_) (frz_tail _)).trans
          (sub_of [(0, some 4), (1, some 6)] rfl rfl rfl ⟨rfl, rfl, rfl, rfl, trivial⟩ ⟨⟨_, rfl, gren rfl⟩, rfl, trivial⟩), by show l.length - (i + 1) < l.length - i; omega⟩
        · rw [hsu]; unfold addSub; rw [if_pos hv]
        · show (cl ++ [last]).length < i + 1; simp; omega
        · show 1 ≤ i + 1; omega
        · rcases List.mem_append.1 hz with hz | hz
          · obtain ⟨w, _, rfl⟩ := List.mem_map.1 hz; rfl
          · simp at hz; subst hz; rfl
      · have hAl : (cl.map slE).length = cl.length := by simp
        refine Dr.dyn (Ob.mk (by decide +kernel) ?_)
        intro _
        refine Ar.fit (by simp only [List.length_append, List.length_cons, List.length_nil]; omega) ?_
        intro _
        refine Ar.fit (by simp only [List.length_append, List.length_cons, List.length_nil]; omega) ?_
        refine Ob.mk (by simp only [List.length_append, List.length_cons, List.length_nil]; omega) ?_
        refine Ob.mk (by simp only [List.length_append, List.length_cons, List.length_nil]; omega) ?_
        intro y hy
        have hn : (((cl.map slE ++ [[SV.own 1]]).length : Int) - 1).toNat = (cl.map slE).length := by simp only [List.length_append, List.length_cons, List.length_nil]; omega
        obtain rfl := last_at hy hn
        refine ⟨Sg, sgE, [x], rfl, Ob.mk ⟨rfl, by decide, by decide, by decide, fun x _ => ⟨rfl, rfl, rfl⟩⟩ ?_⟩
        refine ⟨[x], rfl, Ob.mk ⟨(by show _ * (56 : Int) ≤ _; simp only [List.length_cons, List.length_nil]; omega), (by simp only [List.length_cons, List.length_nil]; omega), by decide, fun _ _ => rfl⟩ ?_⟩
        refine Ob.mk (by simp only [List.length_append, List.length_cons, List.length_nil]; omega) ?_
        refine Ob.mk (by simp only [List.length_append, List.length_cons, List.length_nil]; omega) ?_
        intro y' hy'
        obtain rfl := last_at hy' hn
        refine Ob.mk (by kernel_rfl) ?_
        refine Ar.fit (by omega) ?_
        have hset : (cl.map slE ++ [[SV.own 1]]).set (((cl.map slE ++ [[SV.own 1]]).length : Int) - 1).toNat [SV.own 4] = cl.map slE ++ [[SV.own 4]] := by
          exact set_last hn
        refine ⟨(i + 1, some (cl, last ++ [x])), ⟨by omega, ?_, by show cl.length < i + 1; omega, by show (last ++ [x]).length ≤ i + 1; simp; omega⟩,
          sub_of [(0, some 0), (1, some 4)] rfl rfl rfl ⟨rfl, rfl, rfl, rfl, trivial⟩ ⟨⟨_, (by exact congrArg (fun q => some (Mem.garr 22 1 q)) hset), gren rfl⟩, rfl, trivial⟩, by show l.length - (i + 1) < l.length - i; omega⟩
        rw [hsu]; unfold addSub; rw [if_neg hv]; simp
    · have h1 : ¬ (i : Int) < l.length := h1
      rw [List.take_of_length_le (by omega)] at k2
      refine ⟨_, (sub_frz (sz0 := 1) (T0 := 22) 1 0 (enc := sgE) (ys := last) rfl rfl (xs' := (cl ++ [last]).map slE) (by simp) (fun z hz => ?_) (fun i j x' s' hx hs => ?_)).trans (sub_flat 0 slE (cl ++ [last]) rfl (fun _ _ => rfl)), some 0, .own _ rfl, by rw [k2]; rfl, fun _ _ => rfl⟩
      · obtain ⟨w, _, rfl⟩ := List.mem_map.1 hz; rfl
      · have := frz_tail (cl := cl) (last := last) (a := 1) [] i j x' s' (by simpa using hx) hs
        simpa using this

end Go.Gs
