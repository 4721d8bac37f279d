/- What a path that may be is like; a path turned round; its subpaths counted. -/
import Derived.Test.YtlhelkkfjniioaaPF
namespace Go.Gs
open Go.Proofs

/-- Each segment may stand behind the one ahead of it. -/
def oks : Int → List Sg → Prop
  | _, [] => True
  | last, s :: r => errAt last s = 0 ∧ oks s.v r
theorem chk_oks : ∀ {l : List Sg} {last : Int} {i : Nat}, (chk last i l).1 = 0 ↔ oks last l
  | [], _, _ => by simp [chk, oks]
  | s :: r, last, i => by
    unfold chk oks
    by_cases h : errAt last s = 0
    · rw [if_neg (fun hn => hn h), chk_oks]; exact ⟨fun k => ⟨h, k⟩, fun k => k.2⟩
    · rw [if_pos h]; exact ⟨fun k => absurd k h, fun k => absurd k.1 h⟩
theorem valid_iff {l : List Sg} : valid l ↔ l.length ≤ 256 ∧ oks 5 l := by
  unfold valid check
  by_cases h : 256 < l.length
  · rw [if_pos h]; exact ⟨fun k => absurd k (by decide), fun k => absurd h (by omega)⟩
  · rw [if_neg h, chk_oks]; exact ⟨fun k => ⟨by omega, k⟩, fun k => k.2⟩
theorem errAt_zero {last : Int} {s : Sg} : errAt last s = 0 ↔ 0 ≤ nm s.v ∧ stands last s.v ∧ fits s := by
  unfold errAt
  by_cases h1 : nm s.v < 0
  · rw [if_pos h1]; exact ⟨fun h => absurd h (by decide), fun h => by omega⟩
  · rw [if_neg h1]
    by_cases h2 : stands last s.v
    · rw [if_neg (fun h => h h2)]
      by_cases h3 : fits s
      · rw [if_neg (fun h => h h3)]; exact ⟨fun _ => ⟨by omega, h2, h3⟩, fun _ => rfl⟩
      · rw [if_pos h3]; exact ⟨fun h => absurd h (by decide), fun h => absurd h.2.2 h3⟩
    · rw [if_pos h2]; exact ⟨fun h => absurd h (by decide), fun h => absurd h.2.1 h2⟩
theorem nm_nonneg {v : Int} (h : 0 ≤ nm v) : v = 1 ∨ v = 2 ∨ v = 3 ∨ v = 4 ∨ v = 5 := by
  unfold nm at h
  by_cases h1 : v = 1
  · exact .inl h1
  rw [if_neg h1] at h
  by_cases h2 : v = 2
  · exact .inr (.inl h2)
  rw [if_neg h2] at h
  by_cases h3 : v = 3
  · exact .inr (.inr (.inl h3))
  rw [if_neg h3] at h
  by_cases h4 : v = 4
  · exact .inr (.inr (.inr (.inl h4)))
  rw [if_neg h4] at h
  by_cases h5 : v = 5
  · exact .inr (.inr (.inr (.inr h5)))
  rw [if_neg h5] at h; omega

def midV (s : Sg) : Prop := s.v = 2 ∨ s.v = 3 ∨ s.v = 4
/-- A subpath: a move, lines and curves, and it may be closed; 'last' is its last verb. -/
def Grp (g : List Sg) (last : Int) : Prop :=
  ∃ m mid, m.v = 1 ∧ (∀ s ∈ mid, midV s) ∧ (∀ s ∈ g, fits s) ∧
    ((g = m :: mid ∧ last ≠ 5 ∧ (mid = [] → last = 1)) ∨ ∃ c, g = m :: mid ++ [c] ∧ c.v = 5 ∧ last = 5 ∧ mid ≠ [])

theorem grp_next {g : List Sg} {last : Int} {x : Sg} (h : Grp g last) (he : errAt last x = 0) (hv : x.v ≠ 1) : Grp (g ++ [x]) x.v := by
  obtain ⟨h0, h1, h2⟩ := errAt_zero.1 he
  obtain ⟨m, mid, g1, g2, g3, g4⟩ := h
  have hs : last ≠ 5 ∧ (x.v ≠ 5 ∨ last ≠ 1) := h1.resolve_left hv
  have hf : ∀ s ∈ g ++ [x], fits s := fun s hs => by
    rcases List.mem_append.1 hs with hs | hs
    · exact g3 s hs
    · simp at hs; subst hs; exact h2
  rcases g4 with ⟨rfl, g5, g6⟩ | ⟨c, _, _, g5, _⟩
  · by_cases h5 : x.v = 5
    · exact ⟨m, mid, g1, g2, hf, .inr ⟨x, rfl, h5, h5, fun e => (hs.2.resolve_left (fun h => h h5)) (g6 e)⟩⟩
    · refine ⟨m, mid ++ [x], g1, fun s hs => ?_, hf, .inl ⟨rfl, h5, fun e => by simp at e⟩⟩
      rcases List.mem_append.1 hs with hs | hs
      · exact g2 s hs
      · simp at hs; subst hs
        rcases nm_nonneg h0 with h | h | h | h | h
        · exact absurd h hv
        · exact .inl h
        · exact .inr (.inl h)
        · exact .inr (.inr h)
        · exact absurd h h5
  · exact absurd g5 hs.1

theorem grp_first {last : Int} {x : Sg} (he : errAt last x = 0) (hv : x.v = 1) : Grp [x] x.v :=
  ⟨x, [], hv, fun s hs => (by cases hs), fun s hs => by simp at hs; subst hs; exact (errAt_zero.1 he).2.2, .inl ⟨rfl, by omega, fun _ => hv⟩⟩

def InvS (S : List (List Sg)) (last : Int) : Prop := (S = [] ∧ last = 5) ∨ ∃ cl g, S = cl ++ [g] ∧ Grp g last ∧ ∀ h ∈ cl, ∃ k, Grp h k

theorem inv_next {S : List (List Sg)} {last : Int} {x : Sg} (h : InvS S last) (he : errAt last x = 0) : InvS (addSub S x) x.v := by
  unfold addSub
  by_cases hv : x.v = 1
  · rw [if_pos hv]
    rcases h with ⟨rfl, rfl⟩ | ⟨cl, g, rfl, h1, h2⟩
    · exact .inr ⟨[], [x], rfl, grp_first he hv, fun h hh => by cases hh⟩
    · refine .inr ⟨cl ++ [g], [x], rfl, grp_first he hv, fun h hh => ?_⟩
      rcases List.mem_append.1 hh with hh | hh
      · exact h2 h hh
      · simp at hh; subst hh; exact ⟨_, h1⟩
  · rw [if_neg hv]
    rcases h with ⟨rfl, rfl⟩ | ⟨cl, g, rfl, h1, h2⟩
    · exact absurd ((errAt_zero.1 he).2.1.resolve_left hv).1 (fun h => h rfl)
    · exact .inr ⟨cl, g ++ [x], by simp, grp_next h1 he hv, h2⟩

theorem inv_all : ∀ (r : List Sg) {S : List (List Sg)} {last : Int}, InvS S last → oks last r → ∃ k, InvS (r.foldl addSub S) k
  | [], _, last, h, _ => ⟨last, h⟩
  | _ :: r, _, _, h, ho => inv_all r (inv_next h ho.1) ho.2

theorem subs_grp {l : List Sg} (h : valid l) : ∀ g ∈ subs l, ∃ k, Grp g k := by
  obtain ⟨k, hk⟩ := inv_all l (S := []) (last := 5) (.inl ⟨rfl, rfl⟩) (valid_iff.1 h).2
  intro g hg
  have hg : g ∈ l.foldl addSub [] := hg
  rcases hk with ⟨e, _⟩ | ⟨cl, g', e, h1, h2⟩
  · rw [e] at hg; cases hg
  · rw [e] at hg
    rcases List.mem_append.1 hg with hg | hg
    · exact h2 g hg
    · simp at hg; subst hg; exact ⟨_, h1⟩

theorem addSub_flat (S : List (List Sg)) (x : Sg) : (addSub S x).flatten = S.flatten ++ [x] := by
  unfold addSub
  by_cases hv : x.v = 1
  · rw [if_pos hv]; simp
  · rw [if_neg hv]
    rcases List.eq_nil_or_concat S with rfl | ⟨cl, g, rfl⟩
    · rfl
    · simp
theorem fold_flat : ∀ (r : List Sg) (S : List (List Sg)), (r.foldl addSub S).flatten = S.flatten ++ r
  | [], S => by simp
  | x :: r, S => by rw [List.foldl_cons, fold_flat r, addSub_flat]; simp
theorem subs_flat (l : List Sg) : (subs l).flatten = l := by
  unfold subs; rw [fold_flat]; rfl
theorem valid_first {l : List Sg} (h : valid l) : ∀ x, l[0]? = some x → x.v = 1 := fun x hx => by
  have ho := (valid_iff.1 h).2
  cases l with
  | nil => cases hx
  | cons a r =>
    cases hx
    exact (errAt_zero.1 ho.1).2.1.resolve_right (fun h => h.1 rfl)

/-- A subpath turned round. -/
def turnG (g : List Sg) : List Sg := if g.getLast?.map Sg.v = some 5 then turnB g.dropLast ++ [closeS] else turnB g
theorem turnG_open {m : Sg} {mid : List Sg} (hm : m.v = 1) (h : ∀ s ∈ mid, midV s) : turnG (m :: mid) = turnB (m :: mid) := by
  unfold turnG
  rw [if_neg]
  intro e
  rcases List.eq_nil_or_concat mid with rfl | ⟨r, z, rfl⟩
  · simp at e; omega
  · have hz := h z (by simp)
    rw [List.concat_eq_append, ← List.cons_append, List.getLast?_concat] at e
    simp at e
    unfold midV at hz; omega
theorem turnG_closed {m c : Sg} {mid : List Sg} (hc : c.v = 5) : turnG (m :: mid ++ [c]) = turnB (m :: mid) ++ [closeS] := by
  unfold turnG
  rw [if_pos (by rw [List.getLast?_concat]; simp [hc]), List.dropLast_concat]
theorem turnG_len {g : List Sg} {k : Int} (h : Grp g k) : (turnG g).length = g.length := by
  obtain ⟨m, mid, g1, g2, _, g4⟩ := h
  rcases g4 with ⟨rfl, _⟩ | ⟨c, rfl, hc, _⟩
  · rw [turnG_open g1 g2, turnB_len]
  · rw [turnG_closed hc]; simp [turnB_len]

theorem c_turned (g : List Sg) (k : Int) (h : Grp g k) (hlen : g.length ≤ 256) : CallsG Try.prog 49 [.sl sgE g] [] (.own 0) [(0, .arr 62 sgE 7 (turnG g))] := by
  obtain ⟨m, mid, g1, g2, _, g4⟩ := h
  rcases g4 with ⟨rfl, _⟩ | ⟨c, rfl, hc, _⟩
  · rw [turnG_open g1 g2]; exact c_turnO m mid g1 g2 hlen
  · rw [turnG_closed hc]; exact c_turnC m mid c hc g1 g2 (by simp at hlen ⊢; omega)
theorem c_turned' (g : List Sg) (k : Int) (h : Grp g k) (hlen : g.length ≤ 256) : CallsG Try.prog 50 [.sl sgE g] [] (.own 0) [(0, .arr 62 sgE 7 (turnG g))] := by
  obtain ⟨m, mid, g1, g2, _, g4⟩ := h
  rcases g4 with ⟨rfl, _⟩ | ⟨c, rfl, hc, _⟩
  · rw [turnG_open g1 g2]; exact c_turnO' m mid g1 g2 hlen
  · rw [turnG_closed hc]; exact c_turnC' m mid c hc g1 g2 (by simp at hlen ⊢; omega)

def rev (l : List Sg) : List Sg × Int := if valid l then ((subs l).flatMap turnG, 0) else ([], 10)
def lstR (c : List Sg × Int) : SV := .tup [.own 0, i64 c.2]

theorem mem_len {S : List (List Sg)} {g : List Sg} (h : g ∈ S) : g.length ≤ S.flatten.length := by
  induction S with
  | nil => cases h
  | cons a r ih =>
    simp only [List.flatten_cons, List.length_append]
    rcases List.mem_cons.1 h with rfl | h
    · omega
    · have := ih h; omega
theorem flatMap_len {S : List (List Sg)} (h : ∀ g ∈ S, ∃ k, Grp g k) : (S.flatMap turnG).length = S.flatten.length := by
  induction S with
  | nil => rfl
  | cons a r ih =>
    obtain ⟨k, hk⟩ := h a (.head _)
    simp only [List.flatMap_cons, List.flatten_cons, List.length_append, turnG_len hk, ih (fun g hg => h g (.tail _ hg))]
theorem flatMap_take {S : List (List Sg)} {i : Nat} {g : List Sg} (h : S[i]? = some g) : (S.take (i + 1)).flatMap turnG = (S.take i).flatMap turnG ++ turnG g := by
  rw [List.take_add_one, h]; simp [List.flatMap_append]
theorem flatMap_take_len {l : List Sg} (h : valid l) (i : Nat) : (((subs l).take i).flatMap turnG).length ≤ 256 := by
  have h1 := flatMap_len (S := (subs l).take i) fun g hg => subs_grp h g (List.mem_of_mem_take hg)
  have h2 : ((subs l).take i).flatten.length ≤ (subs l).flatten.length := by
    conv => rhs; rw [← List.take_append_drop i (subs l)]
    rw [List.flatten_append, List.length_append]; omega
  rw [subs_flat] at h2
  have := valid_len h
  omega

theorem c_reverse (l : List Sg) : CallsG Try.prog 23 [.sl sgE l] [] (lstR (rev l)) [(0, .arr 62 sgE 7 (rev l).1)] := by
  generalize hc : rev l = c
  refine calls_own tok mix Try.func23 rfl rfl rfl ?_
  refine CallV.to _ (c_valid l) rfl ?_
  refine Br.mk (fun h => ?_) (fun h => ?_)
  · have : c = ([], 10) := by rw [← hc]; exact if_neg h
    subst this
    exact ⟨none, take_tup (.cons (.nil rfl) (.cons (take_int rfl) .nil)), rfl⟩
  have h := Decidable.not_not.1 h
  have : c = ((subs l).flatMap turnG, 0) := by rw [← hc]; exact if_pos h
  subst this
  clear hc
  refine CallV.fresh _ _ (c_subpaths l (valid_first h) (valid_len h)) rfl (fun _ _ => rfl) (.inl rfl) ?_
  intro hl
  refine ⟨Nat, fun i => ⟨[(13, i64 i), (12, i64 (subs l).length), (11, .own 0), (4, .own 1)], [(1, .arr 62 sgE 7 (((subs l).take i).flatMap turnG)), (0, .arr 22 slE 1 (subs l))], 2, 23, 0⟩,
    fun i => i ≤ (subs l).length, fun i => (subs l).length - i, 0, Nat.zero_le _, sub_of [(0, some 0), (1, none)] rfl rfl rfl ⟨rfl, rfl, rfl, rfl, trivial⟩ ⟨rfl, rfl, trivial⟩, ?_⟩
  rintro i hi
  have hi : i ≤ (subs l).length := hi
  refine Br.mk (fun h1 => ?_) (fun h1 => ?_)
  · have h1 : (i : Int) < (subs l).length := h1
    refine Ob.mk ⟨by omega, h1⟩ ?_
    refine Ob.mk ⟨by omega, h1⟩ ?_
    intro g hg
    have hg : (subs l)[i]? = some g := hg
    obtain ⟨k, hk⟩ := subs_grp h g (List.mem_of_getElem? hg)
    have hgl : g.length ≤ 256 := by
      have := mem_len (List.mem_of_getElem? hg)
      rw [subs_flat] at this
      have := valid_len h; omega
    refine CallV.fresh _ _ (c_turned g k hk hgl) rfl (fun _ _ => rfl) (.inl rfl) ?_
    have h2 := flatMap_take_len h i
    have h3 := turnG_len hk
    refine ⟨_, rfl, Ob.mk ⟨(by show _ * (56 : Int) ≤ _; omega), (by omega), by decide, fun _ _ => rfl⟩ ?_⟩
    refine Ar.fit (by omega) ?_
    exact ⟨i + 1, by show i + 1 ≤ _; omega, sub_of [(0, some 0), (1, some 3)] rfl rfl rfl ⟨rfl, rfl, rfl, rfl, trivial⟩ ⟨congrArg (fun q => some (Mem.arr 62 sgE 7 q)) (flatMap_take hg).symm, rfl, trivial⟩, by dsimp only; omega⟩
  · have h1 : ¬ (i : Int) < (subs l).length := h1
    exact ⟨some 1, take_tup (.cons (.own _ rfl) (.cons (take_int rfl) .nil)), congrArg (fun q => some (Mem.arr 62 sgE 7 q)) (by rw [List.take_of_length_le (by omega)]), fun _ _ => rfl⟩

/-- How many moves there are. -/
def cnt (l : List Sg) : Int := (l.filter fun s => decide (s.v = 1)).length
def cntV (l : List Sg) : Int := if valid l then cnt l else 0
theorem cnt_take {l : List Sg} {i : Nat} {x : Sg} (h : l[i]? = some x) : cnt (l.take (i + 1)) = cnt (l.take i) + if x.v = 1 then 1 else 0 := by
  unfold cnt
  rw [List.take_add_one, h]
  by_cases hv : x.v = 1 <;> simp [hv]
theorem subs_len {l : List Sg} (h : valid l) : ((subs l).length : Int) = cnt l := by
  have key : ∀ (r : List Sg) (S : List (List Sg)) (last : Int), InvS S last → oks last r → ((r.foldl addSub S).length : Int) = S.length + cnt r := by
    intro r
    induction r with
    | nil => intro S last _ _; simp [cnt]
    | cons x r ih =>
      intro S last hS ho
      rw [List.foldl_cons, ih _ _ (inv_next hS ho.1) ho.2]
      have : ((addSub S x).length : Int) = S.length + if x.v = 1 then 1 else 0 := by
        unfold addSub
        by_cases hv : x.v = 1
        · simp [hv]
        · rw [if_neg hv, if_neg hv]
          rcases hS with ⟨rfl, rfl⟩ | ⟨cl, g, rfl, _⟩
          · exact absurd ((errAt_zero.1 ho.1).2.1.resolve_left hv).1 (fun h => h rfl)
          · simp
      rw [this]
      unfold cnt
      by_cases hv : x.v = 1 <;> simp [hv] <;> omega
  have := key l [] 5 (.inl ⟨rfl, rfl⟩) (valid_iff.1 h).2
  simpa [subs] using this

theorem c_count (l : List Sg) : CallsG Try.prog 19 [.sl sgE l] [] (i64 (cntV l)) [] := by
  refine calls_to tok mix Try.func19 rfl rfl rfl ?_
  refine CallV.to _ (c_valid l) rfl ?_
  refine Br.mk (fun h => LE_int (if_neg h).symm) (fun h => ?_)
  have h := Decidable.not_not.1 h
  refine CallV.fresh _ _ (c_subpaths l (valid_first h) (valid_len h)) rfl (fun _ _ => rfl) (.inl rfl) ?_
  intro _
  exact LE_int ((subs_len h).trans (if_pos h).symm)

theorem c_count' (l : List Sg) (hlen : l.length ≤ 300) : CallsG Try.prog 20 [.sl sgE l] [] (i64 (cntV l)) [] := by
  refine calls_to tok mix Try.func20 rfl rfl rfl ?_
  refine ⟨Nat, fun i => ⟨[(4, i64 i), (3, i64 (cnt (l.take i))), (0, .sl sgE l)], [], 0, 24, 0⟩, fun i => i ≤ l.length ∧ (0 < i → valid l) ∧ 0 ≤ cnt (l.take i) ∧ cnt (l.take i) ≤ i, fun i => l.length - i, 0, ?_, ?_, ?_⟩
  · exact ⟨Nat.zero_le _, fun h => by omega, by simp [cnt], by simp [cnt]⟩
  · exact sub_of [] rfl rfl rfl ⟨rfl, rfl, rfl, trivial⟩ trivial
  rintro i ⟨h1, h2, h3, h4⟩
  intro _
  refine Br.mk (fun h5 => ?_) (fun h5 => ?_)
  · refine CallV.to _ (c_valid' l) rfl ?_
    refine Br.mk (fun h6 => ?_) (fun h6 => ?_)
    · have hx := List.getElem?_eq_getElem (show i < l.length by omega)
      generalize l[i]'(by omega) = x at hx
      have hct := cnt_take hx
      refine Ob.mk ⟨by omega, h5⟩ ?_
      intro y hy
      have hy : l[i]? = some y := hy
      rw [hx] at hy; cases hy
      refine Br.mk (fun h7 => ?_) (fun h7 => ?_)
      · rw [if_pos h7] at hct
        refine Ar.fit (by omega) ?_
        refine Ar.fit (by omega) ?_
        exact ⟨i + 1, ⟨by omega, fun _ => h6, by omega, by omega⟩, sub_of [] rfl rfl rfl ⟨rfl, congrArg (fun n => some (i64 n)) hct.symm, rfl, trivial⟩ trivial, by dsimp only; omega⟩
      · rw [if_neg h7] at hct
        refine Ar.fit (by omega) ?_
        exact ⟨i + 1, ⟨by omega, fun _ => h6, by omega, by omega⟩, sub_of [] rfl rfl rfl ⟨rfl, congrArg (fun n => some (i64 n)) (by omega), rfl, trivial⟩ trivial, by dsimp only; omega⟩
    · refine LE_int ?_
      have : i = 0 := by
        rcases Nat.eq_zero_or_pos i with h | h
        · exact h
        · exact absurd (h2 h) h6
      subst this
      exact (if_neg h6).symm
  · refine LE_int ?_
    unfold cntV
    by_cases h0 : l = []
    · subst h0; simp [cnt]
    · have hl0 : 0 < l.length := List.length_pos_iff.2 h0
      rw [if_pos (h2 (by omega)), List.take_of_length_le (by omega)]

end Go.Gs
