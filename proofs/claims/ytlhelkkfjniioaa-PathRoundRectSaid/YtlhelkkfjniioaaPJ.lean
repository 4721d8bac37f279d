/- A path turned round twice is the path; its points, its bounds and its subpaths; the law. -/
import Derived.Test.YtlhelkkfjniioaaPH
namespace Go.Gs
open Go.Proofs

theorem endP_back {s : Sg} (h : midV s) (e : Pt) : endP (backS s e) = e := by
  obtain ⟨v, a, b, c⟩ := s
  rcases h with h | h | h <;> (dsimp only at h; subst h; rfl)
theorem back_midV {s : Sg} (h : midV s) (e : Pt) : midV (backS s e) := by
  obtain ⟨v, a, b, c⟩ := s
  rcases h with h | h | h
  · dsimp only at h; subst h; exact .inl rfl
  · dsimp only at h; subst h; exact .inr (.inl rfl)
  · dsimp only at h; subst h; exact .inr (.inr rfl)
theorem back_back {s : Sg} (h : midV s) (hf : fits s) (e : Pt) : backS (backS s e) (endP s) = s := by
  obtain ⟨v, a, b, c⟩ := s
  obtain ⟨h1, h2, h3⟩ := hf
  rcases h with h | h | h
  · dsimp only at h; subst h
    have hb : b = zp := h2.2 (by show nm 2 ≤ 1; decide)
    have hc : c = zp := h3.2 (by show nm 2 ≤ 2; decide)
    subst hb; subst hc; rfl
  · dsimp only at h; subst h
    have hc : c = zp := h3.2 (by show nm 3 ≤ 2; decide)
    subst hc; rfl
  · dsimp only at h; subst h; rfl
theorem zp_ok : ptOK zp := by decide
theorem back_fits {s : Sg} (h : midV s) (hf : fits s) {e : Pt} (he : ptOK e) : fits (backS s e) := by
  obtain ⟨v, a, b, c⟩ := s
  obtain ⟨h1, h2, h3⟩ := hf
  rcases h with h | h | h
  · dsimp only at h; subst h
    exact ⟨⟨he, fun k => absurd k (by show ¬ nm 2 ≤ 0; decide)⟩, ⟨zp_ok, fun _ => rfl⟩, ⟨zp_ok, fun _ => rfl⟩⟩
  · dsimp only at h; subst h
    exact ⟨⟨h1.1, fun k => absurd k (by show ¬ nm 3 ≤ 0; decide)⟩, ⟨he, fun k => absurd k (by show ¬ nm 3 ≤ 1; decide)⟩, ⟨zp_ok, fun _ => rfl⟩⟩
  · dsimp only at h; subst h
    exact ⟨⟨h2.1, fun k => absurd k (by show ¬ nm 4 ≤ 0; decide)⟩, ⟨h1.1, fun k => absurd k (by show ¬ nm 4 ≤ 1; decide)⟩, ⟨he, fun k => absurd k (by show ¬ nm 4 ≤ 2; decide)⟩⟩
theorem endP_ok {s : Sg} (hf : fits s) : ptOK (endP s) := by
  obtain ⟨h1, h2, h3⟩ := hf
  unfold endP
  split
  · exact h3.1
  · split
    · exact h2.1
    · exact h1.1
theorem move_eq {m : Sg} (hm : m.v = 1) (hf : fits m) : m = ⟨1, endP m, zp, zp⟩ := by
  obtain ⟨v, a, b, c⟩ := m
  dsimp only at hm; subst hm
  obtain ⟨_, h2, h3⟩ := hf
  have hb : b = zp := h2.2 (by show nm 1 ≤ 1; decide)
  have hc : c = zp := h3.2 (by show nm 1 ≤ 2; decide)
  subst hb; subst hc; rfl

def lastE (p : Sg) (r : List Sg) : Pt := endP (r.getLastD p)
theorem lastE_cons (p s : Sg) (r : List Sg) : lastE p (s :: r) = lastE s r := by unfold lastE; rw [List.getLastD_cons]
theorem lastE_snoc (p z : Sg) (r : List Sg) : lastE p (r ++ [z]) = endP z := by unfold lastE; simp
theorem backs_snoc (z : Sg) : ∀ (X : List Sg) (q : Sg), backs q (X ++ [z]) = backS z (lastE q X) :: backs q X
  | [], q => rfl
  | x :: X, q => by
    show backs x (X ++ [z]) ++ [backS x (endP q)] = _
    rw [backs_snoc z X x, lastE_cons]; rfl
theorem backs_backs : ∀ (r : List Sg) (p q : Sg), (∀ s ∈ r, midV s ∧ fits s) → endP q = lastE p r → backs q (backs p r) = r ∧ lastE q (backs p r) = endP p
  | [], p, q, _, he => ⟨rfl, he⟩
  | s :: r, p, q, h, he => by
    rw [lastE_cons] at he
    obtain ⟨i1, i2⟩ := backs_backs r s q (fun t ht => h t (.tail _ ht)) he
    obtain ⟨h1, h2⟩ := h s (.head _)
    show backs q (backs s r ++ [backS s (endP p)]) = _ ∧ lastE q (backs s r ++ [backS s (endP p)]) = _
    rw [backs_snoc, lastE_snoc, i1, i2, back_back h1 h2, endP_back h1]
    exact ⟨rfl, rfl⟩
theorem backs_mem : ∀ (r : List Sg) (p : Sg), fits p → (∀ s ∈ r, midV s ∧ fits s) → ∀ s ∈ backs p r, midV s ∧ fits s
  | [], _, _, _, s, hs => by cases hs
  | t :: r, p, hp, h, s, hs => by
    obtain ⟨h1, h2⟩ := h t (.head _)
    rcases List.mem_append.1 hs with hs | hs
    · exact backs_mem r t h2 (fun u hu => h u (.tail _ hu)) s hs
    · simp at hs; subst hs
      exact ⟨back_midV h1 _, back_fits h1 h2 (endP_ok hp)⟩

theorem turnB_turnB {m : Sg} {mid : List Sg} (hm : m.v = 1) (hf : fits m) (h : ∀ s ∈ mid, midV s ∧ fits s) : turnB (turnB (m :: mid)) = m :: mid := by
  obtain ⟨h1, h2⟩ := backs_backs mid m ⟨1, lastE m mid, zp, zp⟩ h rfl
  show (⟨1, lastE ⟨1, lastE m mid, zp, zp⟩ (backs m mid), zp, zp⟩ : Sg) :: backs ⟨1, lastE m mid, zp, zp⟩ (backs m mid) = _
  rw [h1, h2, ← move_eq hm hf]

theorem close_eq {c : Sg} (hc : c.v = 5) (hf : fits c) : c = closeS := by
  obtain ⟨v, a, b, d⟩ := c
  dsimp only at hc; subst hc
  obtain ⟨h1, h2, h3⟩ := hf
  have ha : a = zp := h1.2 (by show nm 5 ≤ 0; decide)
  have hb : b = zp := h2.2 (by show nm 5 ≤ 1; decide)
  have hd : d = zp := h3.2 (by show nm 5 ≤ 2; decide)
  subst ha; subst hb; subst hd; rfl
theorem close_fits : fits closeS := by decide

theorem lastE_ok {m : Sg} {mid : List Sg} (hf : fits m) (h : ∀ s ∈ mid, midV s ∧ fits s) : ptOK (lastE m mid) := by
  unfold lastE
  rcases List.eq_nil_or_concat mid with rfl | ⟨r, z, rfl⟩
  · exact endP_ok hf
  · rw [List.concat_eq_append] at h ⊢
    have : (r ++ [z]).getLastD m = z := by simp
    rw [this]
    exact endP_ok (h z (by simp)).2

theorem turn_grp {g : List Sg} {k : Int} (h : Grp g k) : (∃ k', Grp (turnG g) k') ∧ turnG (turnG g) = g := by
  obtain ⟨m, mid, g1, g2, g3, g4⟩ := h
  have hh : ∀ (hg : ∀ s ∈ m :: mid, s ∈ g), (fits m ∧ ∀ s ∈ mid, midV s ∧ fits s) := fun hg => ⟨g3 m (hg m (.head _)), fun s hs => ⟨g2 s hs, g3 s (hg s (.tail _ hs))⟩⟩
  have key : (fits m ∧ ∀ s ∈ mid, midV s ∧ fits s) → (fits ⟨1, lastE m mid, zp, zp⟩ ∧ ∀ s ∈ backs m mid, midV s ∧ fits s) := fun ⟨k1, k2⟩ =>
    ⟨⟨⟨lastE_ok k1 k2, fun k => absurd k (by show ¬ nm 1 ≤ 0; decide)⟩, ⟨zp_ok, fun _ => rfl⟩, ⟨zp_ok, fun _ => rfl⟩⟩, backs_mem mid m k1 k2⟩
  rcases g4 with ⟨rfl, g5, g6⟩ | ⟨c, rfl, hc, _, hne⟩
  · obtain ⟨k1, k2⟩ := hh fun s hs => hs
    obtain ⟨k3, k4⟩ := key ⟨k1, k2⟩
    rw [turnG_open g1 g2]
    have e : turnB (m :: mid) = ⟨1, lastE m mid, zp, zp⟩ :: backs m mid := rfl
    refine ⟨⟨if backs m mid = [] then 1 else 2, ⟨1, lastE m mid, zp, zp⟩, backs m mid, rfl, fun s hs => (k4 s hs).1, fun s hs => ?_, .inl ⟨e, by split <;> decide, fun h => by rw [if_pos h]⟩⟩, ?_⟩
    · rw [e] at hs
      rcases List.mem_cons.1 hs with rfl | hs
      · exact k3
      · exact (k4 s hs).2
    · rw [e, turnG_open rfl fun s hs => (k4 s hs).1, ← e]
      exact turnB_turnB g1 k1 k2
  · obtain ⟨k1, k2⟩ := hh fun s hs => List.mem_append_left _ hs
    obtain ⟨k3, k4⟩ := key ⟨k1, k2⟩
    have hcf := g3 c (by simp)
    rw [turnG_closed hc]
    have e : turnB (m :: mid) = ⟨1, lastE m mid, zp, zp⟩ :: backs m mid := rfl
    refine ⟨⟨5, ⟨1, lastE m mid, zp, zp⟩, backs m mid, rfl, fun s hs => (k4 s hs).1, fun s hs => ?_, .inr ⟨closeS, by rw [e], rfl, rfl, fun h => ?_⟩⟩, ?_⟩
    · rcases List.mem_append.1 hs with hs | hs
      · rw [e] at hs
        rcases List.mem_cons.1 hs with rfl | hs
        · exact k3
        · exact (k4 s hs).2
      · simp at hs; subst hs; exact close_fits
    · have := congrArg List.length h
      rw [backs_len] at this
      exact hne (List.eq_nil_of_length_eq_zero this)
    · rw [e, turnG_closed rfl, ← e, turnB_turnB g1 k1 k2, ← close_eq hc hcf]

theorem fold_rest : ∀ (t : List Sg) (A : List (List Sg)) (h : List Sg), (∀ s ∈ t, s.v ≠ 1) → t.foldl addSub (A ++ [h]) = A ++ [h ++ t]
  | [], A, h, _ => by simp
  | s :: t, A, h, hs => by
    rw [List.foldl_cons]
    have : addSub (A ++ [h]) s = A ++ [h ++ [s]] := by unfold addSub; rw [if_neg (hs s (.head _))]; simp
    rw [this, fold_rest t A (h ++ [s]) (fun u hu => hs u (.tail _ hu))]; simp
theorem fold_grp {g : List Sg} {k : Int} (h : Grp g k) (A : List (List Sg)) : g.foldl addSub A = A ++ [g] := by
  obtain ⟨m, mid, g1, g2, _, g4⟩ := h
  have hm : addSub A m = A ++ [[m]] := by unfold addSub; rw [if_pos g1]
  have hmid : ∀ s ∈ mid, s.v ≠ 1 := fun s hs => by have := g2 s hs; unfold midV at this; omega
  rcases g4 with ⟨rfl, _⟩ | ⟨c, rfl, hc, _⟩
  · rw [List.foldl_cons, hm, fold_rest mid A [m] hmid]; rfl
  · rw [List.cons_append, List.foldl_cons, hm, fold_rest (mid ++ [c]) A [m] (fun s hs => by
      rcases List.mem_append.1 hs with hs | hs
      · exact hmid s hs
      · simp at hs; subst hs; omega)]; rfl
theorem subs_of : ∀ (S : List (List Sg)), (∀ g ∈ S, ∃ k, Grp g k) → ∀ A, S.flatten.foldl addSub A = A ++ S
  | [], _, A => by simp
  | g :: S, h, A => by
    obtain ⟨k, hk⟩ := h g (.head _)
    rw [List.flatten_cons, List.foldl_append, fold_grp hk, subs_of S (fun x hx => h x (.tail _ hx))]; simp
theorem subs_flatten {S : List (List Sg)} (h : ∀ g ∈ S, ∃ k, Grp g k) : subs S.flatten = S := by
  unfold subs; rw [subs_of S h]; rfl

theorem err0 {last : Int} {s : Sg} (h1 : 0 ≤ nm s.v) (h2 : stands last s.v) (h3 : fits s) : errAt last s = 0 := errAt_zero.2 ⟨h1, h2, h3⟩
theorem mid_oks : ∀ (mid : List Sg) (last : Int) (r : List Sg), last ≠ 5 → (∀ s ∈ mid, midV s ∧ fits s) → (∀ last', last' ≠ 5 → (mid ≠ [] → last' ≠ 1) → (mid = [] → last' = last) → oks last' r) → oks last (mid ++ r)
  | [], last, r, h5, _, hr => hr last h5 (fun h => absurd rfl h) (fun _ => rfl)
  | s :: mid, last, r, h5, h, hr => by
    obtain ⟨h1, h2⟩ := h s (.head _)
    have hv : s.v ≠ 5 ∧ s.v ≠ 1 := by unfold midV at h1; omega
    refine ⟨err0 ?_ (.inr ⟨h5, .inl hv.1⟩) h2, mid_oks mid s.v r hv.1 (fun t ht => h t (.tail _ ht)) fun last' k1 k2 k3 => hr last' k1 (fun _ => ?_) (fun e => by cases e)⟩
    · have := verb_nm (s := s) (.inr h1); omega
    · by_cases e : mid = []
      · rw [k3 e]; exact hv.2
      · exact k2 e
theorem grp_oks {g : List Sg} {k : Int} (h : Grp g k) {r : List Sg} (hr : ∀ last, oks last r) (last : Int) : oks last (g ++ r) := by
  obtain ⟨m, mid, g1, g2, g3, g4⟩ := h
  have nm1 : 0 ≤ nm m.v := by rw [g1]; decide
  rcases g4 with ⟨rfl, _⟩ | ⟨c, rfl, hc, _, hne⟩
  · refine ⟨err0 nm1 (.inl g1) (g3 m (.head _)), ?_⟩
    exact mid_oks mid m.v r (by omega) (fun s hs => ⟨g2 s hs, g3 s (.tail _ hs)⟩) fun last' _ _ _ => hr last'
  · rw [List.append_assoc]
    refine ⟨err0 nm1 (.inl g1) (g3 m (.head _)), ?_⟩
    refine mid_oks mid m.v ([c] ++ r) (by omega) (fun s hs => ⟨g2 s hs, g3 s (List.mem_append_left _ (.tail _ hs))⟩) fun last' k1 k2 _ => ?_
    exact ⟨err0 (by rw [hc]; decide) (.inr ⟨k1, .inr (k2 hne)⟩) (g3 c (by simp)), hr _⟩
theorem flat_oks : ∀ (S : List (List Sg)), (∀ g ∈ S, ∃ k, Grp g k) → ∀ last, oks last S.flatten
  | [], _, _ => trivial
  | g :: S, h, last => by
    obtain ⟨k, hk⟩ := h g (.head _)
    exact grp_oks hk (flat_oks S fun x hx => h x (.tail _ hx)) last

def revL (l : List Sg) : List Sg := (subs l).flatMap turnG
theorem map_grp {l : List Sg} (h : valid l) : ∀ g ∈ (subs l).map turnG, ∃ k, Grp g k := fun g hg => by
  obtain ⟨x, hx, rfl⟩ := List.mem_map.1 hg
  obtain ⟨k, hk⟩ := subs_grp h x hx
  exact (turn_grp hk).1
theorem revL_len {l : List Sg} (h : valid l) : (revL l).length = l.length := by
  unfold revL; rw [flatMap_len (subs_grp h), subs_flat]
theorem revL_subs {l : List Sg} (h : valid l) : subs (revL l) = (subs l).map turnG := by
  unfold revL; rw [List.flatMap_def]; exact subs_flatten (map_grp h)
theorem revL_valid {l : List Sg} (h : valid l) : valid (revL l) := by
  refine valid_iff.2 ⟨by rw [revL_len h]; exact valid_len h, ?_⟩
  unfold revL; rw [List.flatMap_def]; exact flat_oks _ (map_grp h) 5
theorem revL_revL {l : List Sg} (h : valid l) : revL (revL l) = l := by
  show (subs (revL l)).flatMap turnG = l
  rw [revL_subs h, List.flatMap_def, List.map_map]
  have : (subs l).map (turnG ∘ turnG) = subs l := by
    conv => rhs; rw [← List.map_id (subs l)]
    refine List.map_congr_left fun g hg => ?_
    obtain ⟨k, hk⟩ := subs_grp h g hg
    exact (turn_grp hk).2
  rw [this, subs_flat]
theorem revL_cnt {l : List Sg} (h : valid l) : cntV (revL l) = cntV l := by
  unfold cntV
  rw [if_pos (revL_valid h), if_pos h, ← subs_len (revL_valid h), ← subs_len h, revL_subs h, List.length_map]

theorem backs_pts : ∀ (r : List Sg) (p : Sg), (∀ s ∈ r, midV s) → lastE p r :: allPts (backs p r) = (endP p :: allPts r).reverse
  | [], p, _ => rfl
  | s :: r, p, h => by
    have ih := backs_pts r s (fun t ht => h t (.tail _ ht))
    have hs : endP s :: ptsOf (backS s (endP p)) = (ptsOf s).reverse ++ [endP p] := by
      have h0 := h s (.head _)
      obtain ⟨v, a, b, c⟩ := s
      rcases h0 with h0 | h0 | h0 <;> (dsimp only at h0; subst h0; rfl)
    rw [lastE_cons]
    have e1 : allPts (backs p (s :: r)) = allPts (backs s r) ++ ptsOf (backS s (endP p)) := by
      show allPts (backs s r ++ [backS s (endP p)]) = _
      unfold allPts; simp
    have e2 : allPts (s :: r) = ptsOf s ++ allPts r := rfl
    rw [e1, e2, ← List.cons_append, ih, List.reverse_cons, List.append_assoc, List.singleton_append, hs]
    simp
theorem turnB_pts {m : Sg} {mid : List Sg} (hm : m.v = 1) (h : ∀ s ∈ mid, midV s) : allPts (turnB (m :: mid)) = (allPts (m :: mid)).reverse := by
  have e1 : allPts (turnB (m :: mid)) = lastE m mid :: allPts (backs m mid) := rfl
  have e2 : allPts (m :: mid) = endP m :: allPts mid := by
    obtain ⟨v, a, b, c⟩ := m
    dsimp only at hm; subst hm; rfl
  rw [e1, e2, backs_pts mid m h]
theorem turnG_pts {g : List Sg} {k : Int} (h : Grp g k) : allPts (turnG g) = (allPts g).reverse := by
  obtain ⟨m, mid, g1, g2, _, g4⟩ := h
  rcases g4 with ⟨rfl, _⟩ | ⟨c, rfl, hc, _⟩
  · rw [turnG_open g1 g2, turnB_pts g1 g2]
  · have close : ∀ (b : List Sg) (c : Sg), c.v = 5 → allPts (b ++ [c]) = allPts b := fun b c hc => by
      have : ptsOf c = [] := by unfold ptsOf; rw [hc]; rfl
      unfold allPts; simp [this]
    rw [turnG_closed hc, close _ _ rfl, turnB_pts g1 g2, close _ _ hc]
theorem allPts_flat (S : List (List Sg)) : allPts S.flatten = S.flatMap allPts := by
  unfold allPts; induction S with
  | nil => rfl
  | cons a r ih => simp [List.flatMap_append, ih]
theorem revL_mem {l : List Sg} (h : valid l) (p : Pt) : p ∈ allPts (revL l) ↔ p ∈ allPts l := by
  have e : allPts l = (subs l).flatMap allPts := by rw [← allPts_flat, subs_flat]
  rw [e]
  unfold revL
  rw [List.flatMap_def, allPts_flat]
  simp only [List.mem_flatMap, List.mem_map]
  constructor
  · rintro ⟨_, ⟨g, hg, rfl⟩, hp⟩
    obtain ⟨k, hk⟩ := subs_grp h g hg
    rw [turnG_pts hk] at hp
    exact ⟨g, hg, by simpa using hp⟩
  · rintro ⟨g, hg, hp⟩
    obtain ⟨k, hk⟩ := subs_grp h g hg
    exact ⟨turnG g, ⟨g, hg, rfl⟩, by rw [turnG_pts hk]; simpa using hp⟩

theorem fold_mn : ∀ (q : List Pt) (p : Pt), ((q.foldl mnP p).x ≤ p.x ∧ (q.foldl mnP p).y ≤ p.y) ∧ (∀ r ∈ q, (q.foldl mnP p).x ≤ r.x ∧ (q.foldl mnP p).y ≤ r.y) ∧
    ((q.foldl mnP p).x = p.x ∨ ∃ r ∈ q, (q.foldl mnP p).x = r.x) ∧ ((q.foldl mnP p).y = p.y ∨ ∃ r ∈ q, (q.foldl mnP p).y = r.y)
  | [], p => ⟨⟨Int.le_refl _, Int.le_refl _⟩, fun r hr => (by cases hr), .inl rfl, .inl rfl⟩
  | a :: q, p => by
    obtain ⟨h1, h2, h3, h4⟩ := fold_mn q (mnP p a)
    rw [List.foldl_cons]
    have e1 : (mnP p a).x = min p.x a.x := rfl
    have e2 : (mnP p a).y = min p.y a.y := rfl
    refine ⟨⟨by omega, by omega⟩, fun r hr => ?_, ?_, ?_⟩
    · rcases List.mem_cons.1 hr with rfl | hr
      · exact ⟨by omega, by omega⟩
      · exact h2 r hr
    · rcases h3 with h3 | ⟨r, hr, h3⟩
      · rcases Int.le_total p.x a.x with h | h
        · exact .inl (by omega)
        · exact .inr ⟨a, .head _, by omega⟩
      · exact .inr ⟨r, .tail _ hr, h3⟩
    · rcases h4 with h4 | ⟨r, hr, h4⟩
      · rcases Int.le_total p.y a.y with h | h
        · exact .inl (by omega)
        · exact .inr ⟨a, .head _, by omega⟩
      · exact .inr ⟨r, .tail _ hr, h4⟩
theorem fold_mx : ∀ (q : List Pt) (p : Pt), (p.x ≤ (q.foldl mxP p).x ∧ p.y ≤ (q.foldl mxP p).y) ∧ (∀ r ∈ q, r.x ≤ (q.foldl mxP p).x ∧ r.y ≤ (q.foldl mxP p).y) ∧
    ((q.foldl mxP p).x = p.x ∨ ∃ r ∈ q, (q.foldl mxP p).x = r.x) ∧ ((q.foldl mxP p).y = p.y ∨ ∃ r ∈ q, (q.foldl mxP p).y = r.y)
  | [], p => ⟨⟨Int.le_refl _, Int.le_refl _⟩, fun r hr => (by cases hr), .inl rfl, .inl rfl⟩
  | a :: q, p => by
    obtain ⟨h1, h2, h3, h4⟩ := fold_mx q (mxP p a)
    rw [List.foldl_cons]
    have e1 : (mxP p a).x = max p.x a.x := rfl
    have e2 : (mxP p a).y = max p.y a.y := rfl
    refine ⟨⟨by omega, by omega⟩, fun r hr => ?_, ?_, ?_⟩
    · rcases List.mem_cons.1 hr with rfl | hr
      · exact ⟨by omega, by omega⟩
      · exact h2 r hr
    · rcases h3 with h3 | ⟨r, hr, h3⟩
      · rcases Int.le_total p.x a.x with h | h
        · exact .inr ⟨a, .head _, by omega⟩
        · exact .inl (by omega)
      · exact .inr ⟨r, .tail _ hr, h3⟩
    · rcases h4 with h4 | ⟨r, hr, h4⟩
      · rcases Int.le_total p.y a.y with h | h
        · exact .inr ⟨a, .head _, by omega⟩
        · exact .inl (by omega)
      · exact .inr ⟨r, .tail _ hr, h4⟩

theorem pt_ext {p q : Pt} (h1 : p.x = q.x) (h2 : p.y = q.y) : p = q := by cases p; cases q; simp_all
/-- The bounds hang on which points there are. -/
theorem bnd_mem {q q' : List Pt} (h : ∀ p, p ∈ q ↔ p ∈ q') : bnd mnP q = bnd mnP q' ∧ bnd mxP q = bnd mxP q' := by
  cases q with
  | nil =>
    have : q' = [] := by
      cases q' with
      | nil => rfl
      | cons a r => exact absurd ((h a).2 (.head _)) (by simp)
    subst this; exact ⟨rfl, rfl⟩
  | cons a r =>
    cases q' with
    | nil => exact absurd ((h a).1 (.head _)) (by simp)
    | cons b s =>
      obtain ⟨a1, a2, a3, a4⟩ := fold_mn (a :: r) a
      obtain ⟨b1, b2, b3, b4⟩ := fold_mn (b :: s) b
      obtain ⟨c1, c2, c3, c4⟩ := fold_mx (a :: r) a
      obtain ⟨d1, d2, d3, d4⟩ := fold_mx (b :: s) b
      have in1 : ∀ p ∈ a :: r, p ∈ b :: s := fun p hp => (h p).1 hp
      have in2 : ∀ p ∈ b :: s, p ∈ a :: r := fun p hp => (h p).2 hp
      have A : ∀ {P : Pt → Prop}, (P a ∨ ∃ t ∈ a :: r, P t) → ∃ t ∈ a :: r, P t := fun h => h.elim (fun h => ⟨a, .head _, h⟩) id
      have B : ∀ {P : Pt → Prop}, (P b ∨ ∃ t ∈ b :: s, P t) → ∃ t ∈ b :: s, P t := fun h => h.elim (fun h => ⟨b, .head _, h⟩) id
      obtain ⟨a5, ha5, e1⟩ := A (P := fun t => ((a :: r).foldl mnP a).x = t.x) a3
      obtain ⟨a6, ha6, e2⟩ := A (P := fun t => ((a :: r).foldl mnP a).y = t.y) a4
      obtain ⟨b5, hb5, e3⟩ := B (P := fun t => ((b :: s).foldl mnP b).x = t.x) b3
      obtain ⟨b6, hb6, e4⟩ := B (P := fun t => ((b :: s).foldl mnP b).y = t.y) b4
      obtain ⟨c5, hc5, e5⟩ := A (P := fun t => ((a :: r).foldl mxP a).x = t.x) c3
      obtain ⟨c6, hc6, e6⟩ := A (P := fun t => ((a :: r).foldl mxP a).y = t.y) c4
      obtain ⟨d5, hd5, e7⟩ := B (P := fun t => ((b :: s).foldl mxP b).x = t.x) d3
      obtain ⟨d6, hd6, e8⟩ := B (P := fun t => ((b :: s).foldl mxP b).y = t.y) d4
      constructor
      · have := (a2 b5 (in2 _ hb5)).1
        have := (b2 a5 (in1 _ ha5)).1
        have := (a2 b6 (in2 _ hb6)).2
        have := (b2 a6 (in1 _ ha6)).2
        exact pt_ext (show ((a :: r).foldl mnP a).x = ((b :: s).foldl mnP b).x by omega) (show ((a :: r).foldl mnP a).y = ((b :: s).foldl mnP b).y by omega)
      · have := (c2 d5 (in2 _ hd5)).1
        have := (d2 c5 (in1 _ hc5)).1
        have := (c2 d6 (in2 _ hd6)).2
        have := (d2 c6 (in1 _ hc6)).2
        exact pt_ext (show ((a :: r).foldl mxP a).x = ((b :: s).foldl mxP b).x by omega) (show ((a :: r).foldl mxP a).y = ((b :: s).foldl mxP b).y by omega)

theorem bounds_mem {l m : List Sg} (hl : valid l) (hm : valid m) (h : ∀ p, p ∈ allPts m ↔ p ∈ allPts l) : loOf m = loOf l ∧ hiOf m = hiOf l ∧ (some? m ↔ some? l) := by
  obtain ⟨h1, h2⟩ := bnd_mem h
  unfold loOf hiOf some?
  rw [if_pos hl, if_pos hm, if_pos hl, if_pos hm]
  have ne : allPts m ≠ [] ↔ allPts l ≠ [] := by
    constructor
    · intro k e
      obtain ⟨p, hp⟩ := List.exists_mem_of_ne_nil _ k
      have := (h p).1 hp; rw [e] at this; cases this
    · intro k e
      obtain ⟨p, hp⟩ := List.exists_mem_of_ne_nil _ k
      have := (h p).2 hp; rw [e] at this; cases this
  exact ⟨h1, h2, ⟨fun k => ⟨hl, ne.1 k.2⟩, fun k => ⟨hm, ne.2 k.2⟩⟩⟩

theorem c_reverse_bad {l : List Sg} (h : ¬ valid l) : CallsG Try.prog 23 [.sl sgE l] [] (.tup [.own 0, i64 10]) [(0, .arr 62 sgE 7 [])] := by
  have := c_reverse l
  rw [show rev l = ([], 10) from if_neg h] at this; exact this
theorem c_reverse_ok {l : List Sg} (h : valid l) : CallsG Try.prog 23 [.sl sgE l] [] (.tup [.own 0, i64 0]) [(0, .arr 62 sgE 7 (revL l))] := by
  have := c_reverse l
  rw [show rev l = (revL l, 0) from if_pos h] at this; exact this

set_option maxRecDepth 100000 in
set_option maxHeartbeats 2000000 in
theorem c_lawReverse (l : List Sg) : CallsG Try.prog 5 [.sl sgE l] [] (bl true) [] := by
  refine calls_to tok mix Try.func5 rfl rfl rfl ?_
  refine CallV.to _ (c_few l) rfl ?_
  refine Br.mk (fun _ => CallV.to _ c_example rfl .refl) (fun _ => ?_)
  by_cases h : valid l
  · refine CallV.fresh _ _ (c_reverse_ok h) rfl (sg_flat _) (.inl rfl) ?_
    refine CallV.to _ (c_valid l) rfl ?_
    refine Br.mk (fun k => absurd h k) (fun _ => ?_)
    have hv := revL_valid h
    have cr := c_reverse_ok hv
    rw [revL_revL h] at cr
    refine CallV.fresh _ _ cr rfl (sg_flat _) (.inr (sg_scalar _)) ?_
    refine CallV.to _ (c_bounds l) rfl ?_
    refine CallV.to _ (c_bounds (revL l)) rfl ?_
    obtain ⟨b1, b2, b3⟩ := bounds_mem h hv (revL_mem h)
    refine Br.mk (fun _ => ?_) (fun k => absurd rfl k)
    refine Br.mk (fun _ => ?_) (fun k => absurd rfl k)
    refine CallV.to _ (c_valid (revL l)) rfl ?_
    refine Br.mk (fun _ => ?_) (fun k => absurd hv k)
    refine CallV.to _ (c_equal l l) rfl ?_
    refine Br.mk (fun _ => ?_) (fun k => absurd rfl k)
    intro _ _
    refine Br.mk (fun _ => ?_) (fun k => absurd (congrArg Int.ofNat (revL_len h)) k)
    refine CallV.to _ (c_count (revL l)) rfl ?_
    refine CallV.to _ (c_count l) rfl ?_
    refine Br.mk (fun _ => ?_) (fun k => absurd (revL_cnt h) k)
    refine Br.mk (fun _ => ?_) (fun k => absurd (pt_eq.2 b1.symm) k)
    refine Br.mk (fun _ => ?_) (fun k => absurd (pt_eq.2 b2.symm) k)
    refine Br.mk (fun _ => ?_) (fun k => absurd b3.symm k)
    refine CallV.to _ c_example rfl ?_
    exact .refl
  · refine CallV.fresh _ _ (c_reverse_bad h) rfl (sg_flat _) (.inl rfl) ?_
    refine CallV.to _ (c_valid l) rfl ?_
    refine Br.mk (fun _ => ?_) (fun k => absurd h k)
    refine Br.mk (fun _ => ?_) (fun k => absurd rfl k)
    intro _
    refine Br.mk (fun _ => ?_) (fun k => absurd rfl k)
    refine CallV.to _ c_example rfl ?_
    exact .refl
end Go.Gs
