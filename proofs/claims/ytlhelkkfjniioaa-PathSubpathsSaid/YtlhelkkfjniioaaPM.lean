/- A subpath taken out; the laws of joining and of subpaths. -/
import Derived.Test.YtlhelkkfjniioaaPK
namespace Go.Gs
open Go.Proofs

theorem oks_take' : ∀ {l : List Sg} {last : Int} (i : Nat), oks last l → oks last (l.take i)
  | [], _, i, _ => by simp [oks]
  | _ :: _, _, 0, _ => trivial
  | _ :: _, _, i + 1, h => ⟨h.1, oks_take' i h.2⟩
theorem grp_take' {l : List Sg} (h : valid l) (i : Nat) : ∀ g ∈ subs (l.take i), ∃ k, Grp g k := by
  obtain ⟨k, hk⟩ := inv_all (l.take i) (S := []) (last := 5) (.inl ⟨rfl, rfl⟩) (oks_take' i (valid_iff.1 h).2)
  intro g hg
  have hg : g ∈ (l.take i).foldl addSub [] := hg
  rcases hk with ⟨e, _⟩ | ⟨cl, g', e, h1, h2⟩
  · rw [e] at hg; cases hg
  · rw [e] at hg
    rcases List.mem_append.1 hg with hg | hg
    · exact h2 g hg
    · simp at hg; subst hg; exact ⟨_, h1⟩
theorem grp_ne {g : List Sg} {k : Int} (h : Grp g k) : g ≠ [] := by
  obtain ⟨m, mid, _, _, _, g4⟩ := h
  rcases g4 with ⟨rfl, _⟩ | ⟨c, rfl, _⟩ <;> simp
theorem len_le_flat {S : List (List Sg)} (h : ∀ g ∈ S, ∃ k, Grp g k) : S.length ≤ S.flatten.length := by
  induction S with
  | nil => simp
  | cons a r ih =>
    obtain ⟨k, hk⟩ := h a (.head _)
    have := List.length_pos_iff.2 (grp_ne hk)
    have := ih fun g hg => h g (.tail _ hg)
    simp only [List.length_cons, List.flatten_cons, List.length_append]; omega

def subI (l : List Sg) (i : Int) : List Sg × Int := if ¬ valid l then ([], 10) else if 0 ≤ i ∧ i < (subs l).length then ((subs l).getD i.toNat [], 0) else ([], 8)

theorem fold_keeps : ∀ (r : List Sg) (A : List (List Sg)) (h : List Sg), ∃ B, r.foldl addSub (A ++ [h]) = A ++ B ∧ B ≠ []
  | [], A, h => ⟨[h], rfl, by simp⟩
  | x :: r, A, h => by
    rw [List.foldl_cons]
    by_cases hv : x.v = 1
    · have e : addSub (A ++ [h]) x = (A ++ [h]) ++ [[x]] := by unfold addSub; rw [if_pos hv]
      obtain ⟨B, h1, _⟩ := fold_keeps r (A ++ [h]) [x]
      exact ⟨[h] ++ B, by rw [e, h1, List.append_assoc], by simp⟩
    · have e : addSub (A ++ [h]) x = A ++ [h ++ [x]] := by unfold addSub; rw [if_neg hv]; simp
      obtain ⟨B, h1, h2⟩ := fold_keeps r A (h ++ [x])
      exact ⟨B, by rw [e, h1], h2⟩
theorem subs_split (l : List Sg) (k : Nat) : subs l = (l.drop k).foldl addSub (subs (l.take k)) := by
  unfold subs
  conv => lhs; rw [← List.take_append_drop k l]
  rw [List.foldl_append]
theorem subs_ne {l : List Sg} {k : Nat} (h0 : 0 < k) (hk : k ≤ l.length) : ∃ A g, subs (l.take k) = A ++ [g] := by
  rcases List.eq_nil_or_concat (subs (l.take k)) with h | ⟨A, g, h⟩
  · have := subs_flat (l.take k)
    rw [h] at this
    have := congrArg List.length this
    simp at this; omega
  · exact ⟨A, g, by rw [h, List.concat_eq_append]⟩

theorem sub_found {l : List Sg} {i : Int} {A : List (List Sg)} {g : List Sg} {k : Nat} {R : List (List Sg)} (hl : valid l) (hA : (A.length : Int) = i) (h : subs l = A ++ [g] ++ R) (_ : k = k) : subI l i = (g, 0) := by
  unfold subI
  rw [if_neg (fun n => n hl), if_pos ⟨by omega, by rw [h]; simp; omega⟩]
  have : i.toNat = A.length := by omega
  rw [this, h, List.getD_eq_getElem?_getD, List.getElem?_append_left (by simp), List.getElem?_append_right (Nat.le_refl _)]
  simp

set_option maxRecDepth 100000 in
theorem c_subpath (l : List Sg) (i : Int) : CallsG Try.prog 31 [.sl sgE l, i64 i] [] (lstR (subI l i)) [(0, .arr 62 sgE 7 (subI l i).1)] := by
  generalize hc : subI l i = c
  refine calls_own tok mix Try.func31 rfl rfl rfl ?_
  have bad : ∀ {e : Int}, subI l i = ([], e) → ∃ k, Take k (.tup [.val (.slice none 0 0), i64 e]) (lstR c) ∧ takeM ([] : List (Nat × Mem)) k (.arr 62 sgE 7 c.1) := fun h => by
    rw [hc] at h; subst h
    exact ⟨none, take_tup (.cons (.nil rfl) (.cons (take_int rfl) .nil)), rfl⟩
  refine CallV.to _ (c_valid l) rfl ?_
  refine Br.mk (fun h => bad (if_pos h)) (fun h => ?_)
  have h := Decidable.not_not.1 h
  have hvl := valid_len h
  intro _ _
  refine ⟨Nat × Option Nat, fun q => match q with
      | (k, none) => ⟨[(18, i64 k), (17, i64 l.length), (16, .sl sgE l), (8, i64 l.length), (7, i64 (-1)), (6, i64 (subs (l.take k)).length), (0, .sl sgE l), (1, i64 i)], [], 0, 48, 0⟩
      | (k, some f) => ⟨[(18, i64 k), (17, i64 l.length), (16, .sl sgE l), (8, i64 l.length), (7, i64 f), (6, i64 (subs (l.take k)).length), (0, .sl sgE l), (1, i64 i)], [], 0, 48, 0⟩,
    fun q => match q with
      | (k, none) => k ≤ l.length ∧ ¬ (0 ≤ i ∧ i < (subs (l.take k)).length)
      | (k, some f) => k ≤ l.length ∧ f < k ∧ ∃ A, subs (l.take k) = A ++ [(l.drop f).take (k - f)] ∧ (A.length : Int) = i, fun q => l.length - q.1, (0, none), ?_, ?_, ?_⟩
  · exact ⟨Nat.zero_le _, fun hh => by have := hh.2; simp [subs] at this; omega⟩
  · exact sub_of [] rfl rfl rfl ⟨rfl, rfl, rfl, rfl, rfl, rfl, rfl, rfl, trivial⟩ trivial
  have lenS : ∀ k, k ≤ l.length → ((subs (l.take k)).length : Int) ≤ 256 := fun k hk => by
    have h1 := flatMap_len (grp_take' h k)
    have h2 : (subs (l.take k)).length ≤ (subs (l.take k)).flatten.length := len_le_flat (grp_take' h k)
    rw [subs_flat, List.length_take] at h2
    omega
  have lenNM : ∀ {k : Nat} {x : Sg}, l[k]? = some x → x.v ≠ 1 → (subs (l.take (k + 1))).length = (subs (l.take k)).length := fun {k x} hx hv => by
    have hk := (List.getElem?_eq_some_iff.1 hx).1
    have h0 : 0 < k := by
      rcases Nat.eq_zero_or_pos k with e | e
      · subst e; exact absurd (valid_first h x hx) hv
      · exact e
    obtain ⟨A, g, e⟩ := subs_ne (l := l) h0 (by omega)
    rw [subs_take hx, e]; unfold addSub; rw [if_neg hv]; simp
  have lenM : ∀ {k : Nat} {x : Sg}, l[k]? = some x → x.v = 1 → subs (l.take (k + 1)) = subs (l.take k) ++ [[x]] := fun {k x} hx hv => by
    rw [subs_take hx]; unfold addSub; rw [if_pos hv]
  rintro ⟨k, _ | f⟩ hI
  · obtain ⟨k1, k2⟩ : k ≤ l.length ∧ ¬ (0 ≤ i ∧ i < (subs (l.take k)).length) := hI
    have hS := lenS k k1
    refine Br.mk (fun h1 => ?_) (fun h1 => ?_)
    · have h1 : (k : Int) < l.length := h1
      refine Ob.mk ⟨by omega, h1⟩ ?_
      intro x hx
      have hx : l[k]? = some x := hx
      refine Br.mk (fun hv => ?_) (fun hv => ?_)
      · refine Ar.fit (by omega) ?_
        have hn := lenNM hx hv
        exact ⟨(k + 1, none), ⟨by omega, by rw [hn]; exact k2⟩, sub_of [] rfl rfl rfl ⟨rfl, rfl, rfl, rfl, rfl, congrArg (fun n : Nat => some (i64 n)) hn.symm, rfl, rfl, trivial⟩ trivial, by show l.length - (k + 1) < l.length - k; omega⟩
      · have hv : x.v = 1 := Decidable.not_not.1 hv
        have hn := lenM hx hv
        have hnl : ((subs (l.take (k + 1))).length : Int) = (subs (l.take k)).length + 1 := by rw [hn]; simp
        refine Br.mk (fun h2 => ?_) (fun h2 => ?_)
        · have h2 : ((subs (l.take k)).length : Int) = i := h2
          refine Br.mk (fun _ => ?_) (fun h3 => absurd (show (0 : Int) ≤ k by omega) h3)
          refine Br.mk (fun h3 => absurd h3 (by omega)) (fun _ => ?_)
          refine Ar.fit (by omega) ?_
          refine Ar.fit (by omega) ?_
          exact ⟨(k + 1, some k), ⟨by omega, by omega, subs (l.take k), by rw [hn, show k + 1 - k = 1 by omega, drop_at hx]; rfl, h2⟩, sub_of [] rfl rfl rfl ⟨rfl, rfl, rfl, rfl, rfl, congrArg (fun n => some (i64 n)) hnl.symm, rfl, rfl, trivial⟩ trivial, by show l.length - (k + 1) < l.length - k; omega⟩
        · have h2 : ¬ ((subs (l.take k)).length : Int) = i := h2
          refine Br.mk (fun h3 => absurd h3 (by decide)) (fun _ => ?_)
          refine Ar.fit (by omega) ?_
          refine Ar.fit (by omega) ?_
          exact ⟨(k + 1, none), ⟨by omega, fun hh => by rw [hnl] at hh; exact k2 ⟨hh.1, by omega⟩⟩, sub_of [] rfl rfl rfl ⟨rfl, rfl, rfl, rfl, rfl, congrArg (fun n => some (i64 n)) hnl.symm, rfl, rfl, trivial⟩ trivial, by show l.length - (k + 1) < l.length - k; omega⟩
    · have h1 : ¬ (k : Int) < l.length := h1
      refine Br.mk (fun _ => ?_) (fun h2 => absurd (by decide) h2)
      rw [List.take_of_length_le (by omega)] at k2
      exact bad (by unfold subI; rw [if_neg (fun n => n h), if_neg k2])
  · obtain ⟨k1, k2, A, k3, k4⟩ : k ≤ l.length ∧ f < k ∧ ∃ A, subs (l.take k) = A ++ [(l.drop f).take (k - f)] ∧ (A.length : Int) = i := hI
    have hS := lenS k k1
    have hSl : ((subs (l.take k)).length : Int) = i + 1 := by rw [k3]; simp; omega
    have hraw : ∀ t : Nat, f ≤ t → (l.drop ((f : Nat) : Int).toNat).take (((t : Nat) : Int) - ((f : Nat) : Int)).toNat = (l.drop f).take (t - f) := fun t ht => by
      rw [Int.toNat_natCast, show (((t : Nat) : Int) - ((f : Nat) : Int)).toNat = t - f by omega]
    have hrl : ∀ t : Nat, ((l.drop ((f : Nat) : Int).toNat).take (((t : Nat) : Int) - ((f : Nat) : Int)).toNat).length ≤ 256 := fun t => by simp; omega
    refine Br.mk (fun h1 => ?_) (fun h1 => ?_)
    · have h1 : (k : Int) < l.length := h1
      refine Ob.mk ⟨by omega, h1⟩ ?_
      intro x hx
      have hx : l[k]? = some x := hx
      refine Br.mk (fun hv => ?_) (fun hv => ?_)
      · refine Ar.fit (by omega) ?_
        have hn := lenNM hx hv
        have hdr : (l.drop f)[k - f]? = some x := by rw [List.getElem?_drop, show f + (k - f) = k by omega]; exact hx
        exact ⟨(k + 1, some f), ⟨by omega, by omega, A, by rw [subs_take hx, k3, show k + 1 - f = (k - f) + 1 by omega, List.take_add_one, hdr]; unfold addSub; rw [if_neg hv]; simp, k4⟩,
          sub_of [] rfl rfl rfl ⟨rfl, rfl, rfl, rfl, rfl, congrArg (fun n : Nat => some (i64 n)) hn.symm, rfl, rfl, trivial⟩ trivial, by show l.length - (k + 1) < l.length - k; omega⟩
      · have hv : x.v = 1 := Decidable.not_not.1 hv
        refine Br.mk (fun h2 => absurd h2 (by omega)) (fun _ => ?_)
        refine Br.mk (fun _ => ?_) (fun h3 => absurd (show (0 : Int) ≤ f by omega) h3)
        refine Br.mk (fun _ => ?_) (fun h3 => absurd (show (f : Int) < k by omega) h3)
        refine Br.mk (fun h3 => absurd h3 (by omega)) (fun _ => ?_)
        refine Ob.mk ⟨⟨by omega, by omega, by omega, Int.le_refl _⟩, fun _ _ => rfl⟩ ?_
        obtain ⟨B, b1, _⟩ := fold_keeps (l.drop (k + 1)) (subs (l.take k)) [x]
        rw [← lenM hx hv, ← subs_split, k3] at b1
        have hc2 := sub_found (k := 0) h k4 b1 rfl
        rw [hc] at hc2
        subst hc2
        refine CallV.fresh _ _ (c_cloneS _ (hrl k)) rfl (sg_flat _) (.inl rfl) ?_
        exact ⟨some 1, take_tup (.cons (.own _ rfl) (.cons (take_int rfl) .nil)), congrArg (fun q => some (Mem.arr 62 sgE 7 q)) (hraw k (by omega)), fun _ _ => rfl⟩
    · have h1 : ¬ (k : Int) < l.length := h1
      refine Br.mk (fun h3 => absurd h3 (by omega)) (fun _ => ?_)
      refine Ob.mk ⟨⟨by omega, by omega, by omega, Int.le_refl _⟩, fun _ _ => rfl⟩ ?_
      have hkl : k = l.length := by omega
      subst hkl
      rw [List.take_length] at k3
      have hc2 := sub_found (k := 0) (g := (l.drop f).take (l.length - f)) (R := []) h k4 (by rw [k3]; simp) rfl
      rw [hc] at hc2
      subst hc2
      refine CallV.fresh _ _ (c_cloneS _ (hrl l.length)) rfl (sg_flat _) (.inl rfl) ?_
      exact ⟨some 0, take_tup (.cons (.own _ rfl) (.cons (take_int rfl) .nil)), congrArg (fun q => some (Mem.arr 62 sgE 7 q)) (hraw l.length (by omega)), fun _ _ => rfl⟩

/-- What has been taken out of the first 'k' segments. -/
def outAt (l : List Sg) (i : Int) (k : Nat) : List Sg := if 0 ≤ i ∧ i < (subs (l.take k)).length then (subs (l.take k)).getD i.toNat [] else []

theorem c_subpath' (l : List Sg) (i : Int) : CallsG Try.prog 32 [.sl sgE l, i64 i] [] (lstR (subI l i)) [(0, .arr 62 sgE 7 (subI l i).1)] := by
  generalize hc : subI l i = c
  refine calls_own tok mix Try.func32 rfl rfl rfl ?_
  have bad : ∀ {e : Int} {M : List (Nat × Mem)}, subI l i = ([], e) → ∃ k, Take k (.tup [.val (.slice none 0 0), i64 e]) (lstR c) ∧ takeM M k (.arr 62 sgE 7 c.1) := fun h => by
    rw [hc] at h; subst h
    exact ⟨none, take_tup (.cons (.nil rfl) (.cons (take_int rfl) .nil)), rfl⟩
  refine CallV.to _ (c_valid' l) rfl ?_
  refine Br.mk (fun h => bad (if_pos h)) (fun h => ?_)
  have h := Decidable.not_not.1 h
  have hvl := valid_len h
  have lenS : ∀ k, k ≤ l.length → ((subs (l.take k)).length : Int) ≤ 256 := fun k hk => by
    have h2 : (subs (l.take k)).length ≤ (subs (l.take k)).flatten.length := len_le_flat (grp_take' h k)
    rw [subs_flat, List.length_take] at h2
    omega
  have lenO : ∀ k, (outAt l i k).length ≤ 256 := fun k => by
    unfold outAt
    split
    · rename_i hh
      have hlt : i.toNat < (subs (l.take k)).length := by omega
      have hm := mem_len (List.getElem_mem hlt)
      rw [subs_flat, List.length_take] at hm
      rw [List.getD_eq_getElem?_getD, List.getElem?_eq_getElem hlt]
      show (subs (l.take k))[i.toNat].length ≤ 256
      omega
    · simp
  refine ⟨Sg, sgE, [], rfl, Ob.mk ⟨rfl, by decide, by decide, by decide, fun x hx => by cases hx⟩ ?_⟩
  refine ⟨Nat, fun k => ⟨[(8, i64 k), (7, i64 ((subs (l.take k)).length - 1)), (6, .own 0), (0, .sl sgE l), (1, i64 i)], [(0, .arr 62 sgE 7 (outAt l i k))], 1, 41, 0⟩, fun k => k ≤ l.length, fun k => l.length - k, 0, Nat.zero_le _, ?_, ?_⟩
  · exact sub_of [(0, some 0)] rfl rfl rfl ⟨rfl, rfl, rfl, rfl, rfl, trivial⟩ ⟨congrArg (fun q => some (Mem.arr 62 sgE 7 q)) (by unfold outAt; rw [if_neg (fun hh => by have := hh.2; simp [subs] at this; omega)]), trivial⟩
  rintro k k1
  have k1 : k ≤ l.length := k1
  have hS := lenS k k1
  have hO := lenO k
  intro _
  refine Br.mk (fun h1 => ?_) (fun h1 => ?_)
  · have h1 : (k : Int) < l.length := h1
    have hx := List.getElem?_eq_getElem (show k < l.length by omega)
    generalize l[k]'(by omega) = x at hx
    refine Ob.mk ⟨by omega, h1⟩ ?_
    intro y hy
    have hy : l[k]? = some y := hy
    rw [hx] at hy; cases hy
    have hst := subs_take hx
    refine Br.mk (fun hv => ?_) (fun hv => ?_)
    · have hn : subs (l.take (k + 1)) = subs (l.take k) ++ [[x]] := by rw [hst]; unfold addSub; rw [if_pos hv]
      have hnl : ((subs (l.take (k + 1))).length : Int) = (subs (l.take k)).length + 1 := by rw [hn]; simp
      refine Ar.fit (by omega) ?_
      refine Br.mk (fun h2 => ?_) (fun h2 => ?_)
      · have h2 : ((subs (l.take k)).length : Int) - 1 + 1 = i := h2
        refine Ob.mk ⟨by omega, h1⟩ ?_
        intro y hy
        have hy : l[k]? = some y := hy
        rw [hx] at hy; cases hy
        refine ⟨Sg, sgE, [x], rfl, Ob.mk ⟨rfl, by decide, by decide, by decide, fun x _ => ⟨rfl, rfl, rfl⟩⟩ ?_⟩
        refine ⟨[x], rfl, Ob.mk ⟨(by show _ * (56 : Int) ≤ _; simp only [List.length_cons, List.length_nil]; omega), (by simp only [List.length_cons, List.length_nil]; omega), by decide, fun _ _ => rfl⟩ ?_⟩
        refine Ar.fit (by omega) ?_
        have ho : outAt l i k ++ [x] = outAt l i (k + 1) := by
          unfold outAt
          rw [if_neg (fun hh => by have := hh.2; omega), if_pos ⟨by omega, by omega⟩, hn, List.getD_eq_getElem?_getD, List.getElem?_append_right (by omega), show i.toNat - (subs (l.take k)).length = 0 by omega]
          rfl
        exact ⟨k + 1, by show k + 1 ≤ _; omega, sub_of [(0, some 2)] rfl rfl rfl ⟨rfl, congrArg (fun n => some (i64 n)) (by omega), rfl, rfl, rfl, trivial⟩ ⟨congrArg (fun q => some (Mem.arr 62 sgE 7 q)) ho, trivial⟩, by dsimp only; omega⟩
      · have h2 : ¬ ((subs (l.take k)).length : Int) - 1 + 1 = i := h2
        refine Ar.fit (by omega) ?_
        have ho : outAt l i k = outAt l i (k + 1) := by
          unfold outAt
          by_cases hh : 0 ≤ i ∧ i < (subs (l.take k)).length
          · rw [if_pos hh, if_pos ⟨hh.1, by omega⟩, hn, List.getD_eq_getElem?_getD, List.getD_eq_getElem?_getD, List.getElem?_append_left (by omega)]
          · rw [if_neg hh, if_neg (fun h3 => hh ⟨h3.1, by have := h3.2; omega⟩)]
        exact ⟨k + 1, by show k + 1 ≤ _; omega, sub_of [(0, some 0)] rfl rfl rfl ⟨rfl, congrArg (fun n => some (i64 n)) (by omega), rfl, rfl, rfl, trivial⟩ ⟨congrArg (fun q => some (Mem.arr 62 sgE 7 q)) ho, trivial⟩, by dsimp only; omega⟩
    · have h0 : 0 < k := by
        rcases Nat.eq_zero_or_pos k with e | e
        · subst e; exact absurd (valid_first h x hx) hv
        · exact e
      obtain ⟨A, g, hA⟩ := subs_ne h0 k1
      have hn : subs (l.take (k + 1)) = A ++ [g ++ [x]] := by rw [hst, hA]; unfold addSub; rw [if_neg hv]; simp
      have hl1 : ((subs (l.take k)).length : Int) = A.length + 1 := by rw [hA]; simp
      have hl2 : ((subs (l.take (k + 1))).length : Int) = A.length + 1 := by rw [hn]; simp
      refine Br.mk (fun h2 => ?_) (fun h2 => ?_)
      · have h2 : ((subs (l.take k)).length : Int) - 1 = i := h2
        refine Ob.mk ⟨by omega, h1⟩ ?_
        intro y hy
        have hy : l[k]? = some y := hy
        rw [hx] at hy; cases hy
        refine ⟨Sg, sgE, [x], rfl, Ob.mk ⟨rfl, by decide, by decide, by decide, fun x _ => ⟨rfl, rfl, rfl⟩⟩ ?_⟩
        refine ⟨[x], rfl, Ob.mk ⟨(by show _ * (56 : Int) ≤ _; simp only [List.length_cons, List.length_nil]; omega), (by simp only [List.length_cons, List.length_nil]; omega), by decide, fun _ _ => rfl⟩ ?_⟩
        refine Ar.fit (by omega) ?_
        have hi2 : i.toNat = A.length := by omega
        have ho : outAt l i k ++ [x] = outAt l i (k + 1) := by
          unfold outAt
          rw [if_pos ⟨by omega, by omega⟩, if_pos ⟨by omega, by omega⟩, hn, hA, hi2, List.getD_eq_getElem?_getD, List.getD_eq_getElem?_getD, List.getElem?_append_right (Nat.le_refl _), List.getElem?_append_right (Nat.le_refl _), Nat.sub_self]
          rfl
        exact ⟨k + 1, by show k + 1 ≤ _; omega, sub_of [(0, some 2)] rfl rfl rfl ⟨rfl, congrArg (fun n => some (i64 n)) (by omega), rfl, rfl, rfl, trivial⟩ ⟨congrArg (fun q => some (Mem.arr 62 sgE 7 q)) ho, trivial⟩, by dsimp only; omega⟩
      · have h2 : ¬ ((subs (l.take k)).length : Int) - 1 = i := h2
        refine Ar.fit (by omega) ?_
        have ho : outAt l i k = outAt l i (k + 1) := by
          unfold outAt
          by_cases hh : 0 ≤ i ∧ i < (subs (l.take k)).length
          · rw [if_pos hh, if_pos ⟨hh.1, by omega⟩, hn, hA, List.getD_eq_getElem?_getD, List.getD_eq_getElem?_getD, List.getElem?_append_left (by omega), List.getElem?_append_left (by omega)]
          · rw [if_neg hh, if_neg (fun h3 => hh ⟨h3.1, by have := h3.2; omega⟩)]
        exact ⟨k + 1, by show k + 1 ≤ _; omega, sub_of [(0, some 0)] rfl rfl rfl ⟨rfl, congrArg (fun n => some (i64 n)) (by omega), rfl, rfl, rfl, trivial⟩ ⟨congrArg (fun q => some (Mem.arr 62 sgE 7 q)) ho, trivial⟩, by dsimp only; omega⟩
  · have h1 : ¬ (k : Int) < l.length := h1
    have hkl : k = l.length := by omega
    subst hkl
    have hout : outAt l i l.length = (subI l i).1 := by
      unfold outAt subI
      rw [List.take_length]
      by_cases hh : 0 ≤ i ∧ i < (subs l).length
      · rw [if_pos hh, if_neg (c := ¬ valid l) (fun n => n h), if_pos hh]
      · rw [if_neg hh, if_neg (c := ¬ valid l) (fun n => n h), if_neg hh]
    intro _
    refine Br.mk (fun h2 => ?_) (fun h2 => ?_)
    · have h2 : outAt l i l.length = [] := List.eq_nil_of_length_eq_zero (by omega)
      refine bad ?_
      unfold subI
      rw [if_neg (fun n => n h)]
      by_cases hh : 0 ≤ i ∧ i < (subs l).length
      · exfalso
        unfold outAt at h2
        rw [List.take_length, if_pos hh] at h2
        have hlt : i.toNat < (subs l).length := by omega
        rw [List.getD_eq_getElem?_getD, List.getElem?_eq_getElem hlt] at h2
        obtain ⟨q, hq⟩ := subs_grp h _ (List.getElem_mem hlt)
        have h2 : (subs l)[i.toNat] = [] := h2
        rw [h2] at hq
        exact grp_ne hq rfl
      · rw [if_neg hh]
    · have hin : 0 ≤ i ∧ i < (subs l).length := by
        by_cases hh : 0 ≤ i ∧ i < (subs l).length
        · exact hh
        · exfalso
          refine h2 ?_
          unfold outAt
          rw [List.take_length, if_neg hh]; rfl
      have hc2 : subI l i = (outAt l i l.length, 0) := by
        unfold subI outAt
        rw [List.take_length, if_neg (c := ¬ valid l) (fun n => n h), if_pos hin, if_pos hin]
      rw [hc] at hc2
      subst hc2
      exact ⟨some 0, take_tup (.cons (.own _ rfl) (.cons (take_int rfl) .nil)), rfl, fun _ _ => rfl⟩

set_option maxRecDepth 100000 in
set_option maxHeartbeats 2000000 in
theorem c_lawAppend (a b : List Sg) (i : Int) : CallsG Try.prog 8 [.sl sgE a, .sl sgE b, i64 i] [] (bl true) [] := by
  refine calls_to tok mix Try.func8 rfl rfl rfl ?_
  refine CallV.to _ (c_few a) rfl ?_
  refine Br.mk (fun _ => CallV.to _ c_example rfl .refl) (fun _ => ?_)
  refine CallV.to _ (c_few b) rfl ?_
  refine Br.mk (fun _ => CallV.to _ c_example rfl .refl) (fun _ => ?_)
  refine CallV.fresh _ _ (c_append a b) rfl (sg_flat _) (.inr (sg_scalar _)) ?_
  refine CallV.fresh _ _ (c_append' a b) rfl (sg_flat _) (.inr (sg_scalar _)) ?_
  refine CallV.fresh _ _ (c_subpath a i) rfl (sg_flat _) (.inr (sg_scalar _)) ?_
  refine CallV.fresh _ _ (c_subpath' a i) rfl (sg_flat _) (.inr (sg_scalar _)) ?_
  refine CallV.to _ (c_equal' (app a b).1 (app a b).1) rfl ?_
  refine Br.mk (fun _ => ?_) (fun k => absurd rfl k)
  refine Br.mk (fun _ => ?_) (fun k => absurd rfl k)
  refine CallV.to _ (c_equal' (subI a i).1 (subI a i).1) rfl ?_
  refine Br.mk (fun _ => ?_) (fun k => absurd rfl k)
  refine Br.mk (fun _ => ?_) (fun k => absurd rfl k)
  refine CallV.to _ c_example rfl ?_
  exact .refl

end Go.Gs
