/- Segments that may be, the one text. -/
import Derived.Test.YtlhelkkfjniioaaGreatPT0
namespace Go.Gs
open Go.Proofs

structure Pt where
  x : Int
  y : Int
  deriving DecidableEq
def ptE (p : Pt) : List SV := [i64 p.x, i64 p.y]
structure Sg where
  v : Int
  a : Pt
  b : Pt
  c : Pt
  deriving DecidableEq
def sgE (s : Sg) : List SV := [i64 s.v, i64 s.a.x, i64 s.a.y, i64 s.b.x, i64 s.b.y, i64 s.c.x, i64 s.c.y]
def zp : Pt := ⟨0, 0⟩
def ptOK (p : Pt) : Prop := (-1048576 ≤ p.x ∧ p.x ≤ 1048576) ∧ (-1048576 ≤ p.y ∧ p.y ≤ 1048576)
instance (p : Pt) : Decidable (ptOK p) := inferInstanceAs (Decidable (_ ∧ _))
def nm (v : Int) : Int := if v = 1 then 1 else if v = 2 then 1 else if v = 3 then 2 else if v = 4 then 3 else if v = 5 then 0 else -1
theorem pt_eq {p q : Pt} : (p.x = q.x ∧ p.y = q.y ∧ True) ↔ p = q := by
  cases p; cases q; simp
theorem sg_eq {s t : Sg} : (s.v = t.v ∧ s.a.x = t.a.x ∧ s.a.y = t.a.y ∧ s.b.x = t.b.x ∧ s.b.y = t.b.y ∧ s.c.x = t.c.x ∧ s.c.y = t.c.y ∧ True) ↔ s = t := by
  obtain ⟨v, ⟨a, b⟩, ⟨c, d⟩, ⟨e, f⟩⟩ := s
  obtain ⟨v', ⟨a', b'⟩, ⟨c', d'⟩, ⟨e', f'⟩⟩ := t
  simp [and_assoc]

theorem c_named (v : Int) : CallsG Tryz.prog 25 [i64 v] [] (i64 (nm v)) [] := by
  refine calls_to tok mix Tryz.func25 rfl rfl rfl ?_
  refine Br.mk (fun h4 => ?_) (fun h4 => ?_)
  · refine Ar.fit (by decide) ?_
    refine Ar.fit (by decide) ?_
    refine Ar.fit (by decide) ?_
    exact LE_int (by rw [h4]; rfl)
  refine Br.mk (fun h3 => ?_) (fun h3 => ?_)
  · refine Ar.fit (by decide) ?_
    refine Ar.fit (by decide) ?_
    exact LE_int (by rw [h3]; rfl)
  refine Br.mk (fun h1 => ?_) (fun h1 => ?_)
  · refine Br.mk (fun _ => ?_) (fun h => absurd h1 h)
    refine Ar.fit (by decide) ?_
    exact LE_int (by rw [h1]; rfl)
  refine Br.mk (fun h2 => ?_) (fun h2 => ?_)
  · refine Ar.fit (by decide) ?_
    exact LE_int (by rw [h2]; rfl)
  refine Br.mk (fun h5 => ?_) (fun h5 => ?_)
  · exact LE_int (by rw [h5]; rfl)
  · exact LE_int (by unfold nm; rw [if_neg h1, if_neg h2, if_neg h3, if_neg h4, if_neg h5])

def clampI (n lo hi : Int) : Int := if n < lo then lo else if hi < n then hi else n
theorem c_clamp (n lo hi : Int) : CallsG Tryz.prog 100 [i64 n, i64 lo, i64 hi] [] (i64 (clampI n lo hi)) [] := by
  refine calls_to tok mix Tryz.func100 rfl rfl rfl ?_
  refine Br.mk (fun h => ?_) (fun h => ?_)
  · exact LE_int (by simp [clampI, h])
  refine Br.mk (fun h2 => ?_) (fun h2 => ?_)
  · exact LE_int (by simp [clampI, h, h2])
  · exact LE_int (by simp [clampI, h, h2])

theorem c_held (n : Int) : CallsG Tryz.prog 72 [i64 n] [] (i64 (clampI n (-1048576) 1048576)) [] := by
  refine calls_to tok mix Tryz.func72 rfl rfl rfl ?_
  refine CallV.to _ (c_clamp n _ _) rfl ?_
  exact .refl

theorem c_hold (p : Pt) : CallsG Tryz.prog 49 [.agg (ptE p)] [] (.agg [i64 (clampI p.x (-1048576) 1048576), i64 (clampI p.y (-1048576) 1048576)]) [] := by
  refine calls_to tok mix Tryz.func49 rfl rfl rfl ?_
  refine Dr.mk (by decide +kernel) ?_
  refine CallV.to _ (c_held p.x) rfl ?_
  refine CallV.to _ (c_held p.y) rfl ?_
  exact .refl

theorem clamp_eq {n lo hi : Int} (_ : lo ≤ hi) : clampI n lo hi = n ↔ lo ≤ n ∧ n ≤ hi := by
  unfold clampI; split <;> (try split) <;> omega

theorem c_vvalid (p : Pt) : CallsG Tryz.prog 28 [.agg (ptE p)] [] (pr (ptOK p)) [] := by
  refine calls_to tok mix Tryz.func28 rfl rfl rfl ?_
  refine Dr.mk (by decide +kernel) ?_
  refine CallV.to _ (c_hold p) rfl ?_
  refine LE_pr (p := clampI p.x (-1048576) 1048576 = p.x ∧ clampI p.y (-1048576) 1048576 = p.y ∧ True) ?_
  rw [clamp_eq (by decide), clamp_eq (by decide)]
  exact ⟨fun h => ⟨h.1, h.2.1⟩, fun h => ⟨h.1, h.2, trivial⟩⟩

/-- A point at place 'i' of a segment that names 'n' points. -/
def pk (n i : Int) (p : Pt) : Prop := ptOK p ∧ (n ≤ i → p = zp)
instance (n i : Int) (p : Pt) : Decidable (pk n i p) := inferInstanceAs (Decidable (_ ∧ _))
def fits (s : Sg) : Prop := pk (nm s.v) 0 s.a ∧ pk (nm s.v) 1 s.b ∧ pk (nm s.v) 2 s.c
instance (s : Sg) : Decidable (fits s) := inferInstanceAs (Decidable (_ ∧ _))
theorem fits_iff {s : Sg} : fits s ↔ ∀ (j : Nat) x, [s.a, s.b, s.c][j]? = some x → pk (nm s.v) j x := by
  constructor
  · rintro ⟨h1, h2, h3⟩ j x hx
    match j, hx with
    | 0, hx => cases hx; exact h1
    | 1, hx => cases hx; exact h2
    | 2, hx => cases hx; exact h3
  · exact fun h => ⟨h 0 _ rfl, h 1 _ rfl, h 2 _ rfl⟩

theorem c_fits (s : Sg) : CallsG Tryz.prog 26 [.agg (sgE s)] [] (pr (fits s)) [] := by
  refine calls_to tok mix Tryz.func26 rfl rfl rfl ?_
  refine ⟨Pt, ptE, [s.a, s.b, s.c], rfl, Ob.mk ⟨rfl, by decide, by decide, by decide, fun x _ => ⟨rfl, rfl, rfl⟩⟩ ?_⟩
  intro _
  refine ⟨Nat, fun i => ⟨[(13, i64 i), (12, i64 3), (11, .own 1), (1, .loc 0 0)], [(1, .arr 42 ptE 2 [s.a, s.b, s.c]), (0, .box 44 (sgE s))], 2, 34, 0⟩,
    fun i => i ≤ 3 ∧ ∀ (j : Nat) x, j < i → [s.a, s.b, s.c][j]? = some x → pk (nm s.v) j x, fun i => 3 - i, 0, ?_, ?_, ?_⟩
  · exact ⟨by omega, fun j x hj => by omega⟩
  · exact sub_of [(0, some 0), (1, some 1)] rfl rfl rfl ⟨rfl, rfl, rfl, rfl, trivial⟩ ⟨rfl, rfl, trivial⟩
  rintro i ⟨h1, h2⟩
  refine Br.mk (fun h3 => ?_) (fun h3 => ?_)
  · have h3 : i < 3 := by omega
    refine Ob.mk ⟨by omega, by show (i : Int) < 3; omega⟩ ?_
    refine Ob.mk ⟨by omega, by show (i : Int) < 3; omega⟩ ?_
    intro x hx
    have hx : [s.a, s.b, s.c][i]? = some x := hx
    refine CallV.to _ (c_vvalid x) rfl ?_
    have out : ¬ pk (nm s.v) i x → ¬ fits s := fun h hf => h (fits_iff.1 hf i x hx)
    refine Br.mk (fun h4 => LE_false (out fun h => h4 h.1)) (fun h4 => ?_)
    have h4 := Decidable.not_not.1 h4
    refine CallV.to _ (c_named s.v) rfl ?_
    have next : pk (nm s.v) i x → (i + 1 ≤ 3 ∧ ∀ (j : Nat) x, j < i + 1 → [s.a, s.b, s.c][j]? = some x → pk (nm s.v) j x) := fun h => ⟨by omega, fun j y hj hy => by
      by_cases e : j = i
      · subst e; rw [hx] at hy; cases hy; exact h
      · exact h2 j y (by omega) hy⟩
    refine Br.mk (fun h5 => ?_) (fun h5 => ?_)
    · refine Br.mk (fun h6 => LE_false (out fun h => h6 (pt_eq.2 (h.2 h5)))) (fun h6 => ?_)
      have h6 : x = zp := pt_eq.1 (Decidable.not_not.1 h6)
      refine Ar.fit (by omega) ?_
      exact ⟨i + 1, next ⟨h4, fun _ => h6⟩, sub_of [(0, some 0), (1, some 1)] rfl rfl rfl ⟨rfl, rfl, rfl, rfl, trivial⟩ ⟨rfl, rfl, trivial⟩, by dsimp only; omega⟩
    · refine Ar.fit (by omega) ?_
      exact ⟨i + 1, next ⟨h4, fun h => absurd h h5⟩, sub_of [(0, some 0), (1, some 1)] rfl rfl rfl ⟨rfl, rfl, rfl, rfl, trivial⟩ ⟨rfl, rfl, trivial⟩, by dsimp only; omega⟩
  · refine LE_true (fits_iff.2 fun j x hx => h2 j x ?_ hx)
    have := (List.getElem?_eq_some_iff.1 hx).1
    have h3 : ¬ ((i : Int) < 3) := h3
    simp at this; omega

def stands (last v : Int) : Prop := v = 1 ∨ (last ≠ 5 ∧ (v ≠ 5 ∨ last ≠ 1))
instance (last v : Int) : Decidable (stands last v) := inferInstanceAs (Decidable (_ ∨ _))
def errAt (last : Int) (s : Sg) : Int := if nm s.v < 0 then 2 else if ¬ stands last s.v then 10 else if ¬ fits s then 6 else 0
/-- The first error behind a segment of the verb 'last', and its place. -/
def chk (last : Int) (i : Nat) : List Sg → Int × Int
  | [] => (0, 0)
  | s :: r => if errAt last s ≠ 0 then (errAt last s, i) else chk s.v (i + 1) r
def check (l : List Sg) : Int × Int := if 256 < l.length then (5, 256) else chk 5 0 l
def valid (l : List Sg) : Prop := (check l).1 = 0
instance (l : List Sg) : Decidable (valid l) := inferInstanceAs (Decidable (_ = _))

theorem drop_at {α : Type} {l : List α} {i : Nat} {x : α} (h : l[i]? = some x) : l.drop i = x :: l.drop (i + 1) := by
  obtain ⟨hl, he⟩ := List.getElem?_eq_some_iff.1 h
  rw [List.drop_eq_getElem_cons hl, he]

def twoI (c : Int × Int) : SV := .tup [i64 c.1, i64 c.2]

set_option maxRecDepth 100000 in
theorem c_check (l : List Sg) : CallsG Tryz.prog 12 [.sl sgE l] [] (twoI (check l)) [] := by
  refine calls_to tok mix Tryz.func12 rfl rfl rfl ?_
  have fin : ∀ {a b : Int}, check l = (a, b) → LE (.tup [i64 a, i64 b]) (twoI (check l)) := fun h => by rw [h]; exact .refl
  intro hl
  refine Br.mk (fun h => fin (by unfold check; rw [if_pos (by omega)])) (fun h => ?_)
  have hc : check l = chk 5 0 l := by unfold check; rw [if_neg (by omega)]
  intro hl1
  refine ⟨Nat × Int, fun q => ⟨[(13, i64 q.1), (12, i64 l.length), (11, .sl sgE l), (4, i64 q.2)], [], 0, 52, 0⟩, fun q => q.1 ≤ l.length ∧ chk 5 0 l = chk q.2 q.1 (l.drop q.1), fun q => l.length - q.1, (0, 5), ?_, ?_, ?_⟩
  · exact ⟨Nat.zero_le _, rfl⟩
  · exact sub_of [] rfl rfl rfl ⟨rfl, rfl, rfl, rfl, trivial⟩ trivial
  rintro ⟨i, last⟩ ⟨h1, h2⟩
  have h1 : i ≤ l.length := h1
  have h2 : chk 5 0 l = chk last i (l.drop i) := h2
  refine Br.mk (fun h3 => ?_) (fun h3 => ?_)
  · have h3 : (i : Int) < l.length := h3
    refine Ob.mk ⟨by dsimp only; omega, h3⟩ ?_
    intro x hx
    have hx : l[i]? = some x := hx
    rw [drop_at hx] at h2
    have bad : ∀ {e : Int}, errAt last x = e → e ≠ 0 → check l = (e, (i : Int)) := fun h hn => by
      rw [hc, h2]; unfold chk; rw [if_pos (by rw [h]; exact hn), h]
    have good : errAt last x = 0 → (i + 1, x.v).1 ≤ l.length ∧ chk 5 0 l = chk (i + 1, x.v).2 (i + 1, x.v).1 (l.drop (i + 1, x.v).1) := fun h => ⟨by show i + 1 ≤ _; omega, by
      show _ = chk x.v (i + 1) _
      rw [h2]; conv => lhs; unfold chk
      rw [if_neg (fun hn => hn h)]⟩
    refine Br.mk (fun j1 => ?_) (fun j1 => ?_)
    · have st : stands last x.v := .inl j1
      refine CallV.to _ (c_named x.v) rfl ?_
      refine Br.mk (fun k1 => fin (bad (by unfold errAt; rw [if_pos k1]) (by decide))) (fun k1 => ?_)
      refine CallV.to _ (c_fits x) rfl ?_
      refine Br.mk (fun k2 => fin (bad (by unfold errAt; rw [if_neg k1, if_neg (fun h => h st), if_pos k2]) (by decide))) (fun k2 => ?_)
      refine Ar.fit (by dsimp only; omega) ?_
      exact ⟨(i + 1, x.v), good (by unfold errAt; rw [if_neg k1, if_neg (fun h => h st), if_neg k2]), sub_of [] rfl rfl rfl ⟨rfl, rfl, rfl, rfl, trivial⟩ trivial, by show l.length - (i + 1) < l.length - i; omega⟩
    refine Br.mk (fun j2 => ?_) (fun j2 => ?_)
    · refine Br.mk (fun j3 => ?_) (fun j3 => ?_)
      · have st : stands last x.v := .inr ⟨j2, .inl j3⟩
        refine CallV.to _ (c_named x.v) rfl ?_
        refine Br.mk (fun k1 => fin (bad (by unfold errAt; rw [if_pos k1]) (by decide))) (fun k1 => ?_)
        refine CallV.to _ (c_fits x) rfl ?_
        refine Br.mk (fun k2 => fin (bad (by unfold errAt; rw [if_neg k1, if_neg (fun h => h st), if_pos k2]) (by decide))) (fun k2 => ?_)
        refine Ar.fit (by dsimp only; omega) ?_
        exact ⟨(i + 1, x.v), good (by unfold errAt; rw [if_neg k1, if_neg (fun h => h st), if_neg k2]), sub_of [] rfl rfl rfl ⟨rfl, rfl, rfl, rfl, trivial⟩ trivial, by show l.length - (i + 1) < l.length - i; omega⟩
      · refine CallV.to _ (c_named x.v) rfl ?_
        refine Br.mk (fun k1 => fin (bad (by unfold errAt; rw [if_pos k1]) (by decide))) (fun k1 => ?_)
        have j3 := Decidable.not_not.1 j3
        have ns : ¬ last ≠ 1 → ¬ stands last x.v := fun k0 st => by
          rcases st with st | ⟨_, st | st⟩
          · exact j1 st
          · exact st j3
          · exact k0 st
        refine Br.mk (fun k0 => fin (bad (by unfold errAt; rw [if_neg k1, if_pos (ns k0)]) (by decide))) (fun k0 => ?_)
        have st : stands last x.v := .inr ⟨j2, .inr (Decidable.not_not.1 k0)⟩
        refine CallV.to _ (c_fits x) rfl ?_
        refine Br.mk (fun k2 => fin (bad (by unfold errAt; rw [if_neg k1, if_neg (fun h => h st), if_pos k2]) (by decide))) (fun k2 => ?_)
        refine Ar.fit (by dsimp only; omega) ?_
        exact ⟨(i + 1, x.v), good (by unfold errAt; rw [if_neg k1, if_neg (fun h => h st), if_neg k2]), sub_of [] rfl rfl rfl ⟨rfl, rfl, rfl, rfl, trivial⟩ trivial, by show l.length - (i + 1) < l.length - i; omega⟩
    · refine CallV.to _ (c_named x.v) rfl ?_
      refine Br.mk (fun k1 => fin (bad (by unfold errAt; rw [if_pos k1]) (by decide))) (fun k1 => ?_)
      have ns : ¬ stands last x.v := fun st => by
        rcases st with st | ⟨st, _⟩
        · exact j1 st
        · exact j2 st
      exact fin (bad (by unfold errAt; rw [if_neg k1, if_pos ns]) (by decide))
  · refine fin (hc.trans (h2.trans ?_))
    rw [List.drop_eq_nil_of_le (by have h3 : ¬ (i : Int) < l.length := h3; omega)]; rfl

theorem c_valid (l : List Sg) : CallsG Tryz.prog 15 [.sl sgE l] [] (pr (valid l)) [] := by
  refine calls_to tok mix Tryz.func15 rfl rfl rfl ?_
  refine CallV.to _ (c_check l) rfl ?_
  exact LE_pr Iff.rfl
end Go.Gs
/- Segments that may be, the other text; paths that are the same. -/
namespace Go.Gs
open Go.Proofs

theorem c_named' (v : Int) : CallsG Tryz.prog 21 [i64 v] [] (i64 (nm v)) [] := by
  refine calls_to tok mix Tryz.func21 rfl rfl rfl ?_
  refine Br.mk (fun h1 => ?_) (fun h1 => ?_)
  · refine Br.mk (fun _ => ?_) (fun h => absurd h1 h)
    exact LE_int (by rw [h1]; rfl)
  refine Br.mk (fun h2 => LE_int (by rw [h2]; rfl)) (fun h2 => ?_)
  refine Br.mk (fun h3 => LE_int (by rw [h3]; rfl)) (fun h3 => ?_)
  refine Br.mk (fun h4 => LE_int (by rw [h4]; rfl)) (fun h4 => ?_)
  refine Br.mk (fun h5 => LE_int (by rw [h5]; rfl)) (fun h5 => ?_)
  exact LE_int (by unfold nm; rw [if_neg h1, if_neg h2, if_neg h3, if_neg h4, if_neg h5])

theorem c_three (s : Sg) : CallsG Tryz.prog 20 [.agg (sgE s)] [] (.agg (ptE s.a ++ ptE s.b ++ ptE s.c)) [] := by
  refine calls_to tok mix Tryz.func20 rfl rfl rfl ?_
  exact .refl

theorem c_pvalid' (p : Pt) : CallsG Tryz.prog 37 [.agg (ptE p)] [] (pr (ptOK p)) [] := by
  refine calls_to tok mix Tryz.func37 rfl rfl rfl ?_
  refine Br.mk (fun h1 => ?_) (fun h1 => LE_false (fun h => h1 h.1.1))
  refine Br.mk (fun h2 => ?_) (fun h2 => LE_false (fun h => h2 h.1.2))
  refine Br.mk (fun h3 => ?_) (fun h3 => LE_false (fun h => h3 h.2.1))
  exact LE_pr ⟨fun h4 => ⟨⟨h1, h2⟩, ⟨h3, h4⟩⟩, fun h => h.2.2⟩

/-- The verb ahead of place 'i'. -/
def lastAt (l : List Sg) (i : Nat) : Int := if i = 0 then 5 else (l[i - 1]?.map Sg.v).getD 0

theorem c_stands' (l : List Sg) (i : Nat) (x : Sg) (hx : l[i]? = some x) (hl : l.length ≤ 256) : CallsG Tryz.prog 87 [.sl sgE l, i64 i] [] (pr (stands (lastAt l i) x.v)) [] := by
  refine calls_to tok mix Tryz.func87 rfl rfl rfl ?_
  have hi : i < l.length := (List.getElem?_eq_some_iff.1 hx).1
  refine Br.mk (fun h1 => ?_) (fun h1 => ?_)
  · have h0 : i = 0 := by omega
    subst h0
    refine Ob.mk ⟨by omega, by omega⟩ ?_
    intro y hy
    have hy : l[0]? = some y := hy
    rw [hx] at hy; cases hy
    refine LE_pr ⟨fun h => .inl h, fun h => ?_⟩
    rcases h with h | ⟨h, _⟩
    · exact h
    · exact absurd rfl h
  refine Ar.fit (by omega) ?_
  refine Ob.mk ⟨by omega, by omega⟩ ?_
  intro y hy
  have hy : l[i - 1]? = some y := by rw [← hy]; congr 1; omega
  have hlast : lastAt l i = y.v := by unfold lastAt; rw [if_neg (by omega), hy]; rfl
  rw [hlast]
  refine Br.mk (fun h2 => ?_) (fun h2 => ?_)
  · refine Ob.mk ⟨by omega, by omega⟩ ?_
    intro z hz
    have hz : l[i]? = some z := hz
    rw [hx] at hz; cases hz
    refine LE_pr ⟨fun h => .inl h, fun h => ?_⟩
    rcases h with h | ⟨h, _⟩
    · exact h
    · exact absurd h2 h
  · refine Ob.mk ⟨by omega, by omega⟩ ?_
    intro z hz
    have hz : l[i]? = some z := hz
    rw [hx] at hz; cases hz
    refine Br.mk (fun h3 => ?_) (fun h3 => ?_)
    · exact LE_true (.inr ⟨h2, .inl h3⟩)
    · refine Ar.fit (by omega) ?_
      refine Ob.mk ⟨by omega, by omega⟩ ?_
      intro u hu
      have hu : l[i - 1]? = some u := by rw [← hu]; congr 1; omega
      rw [hy] at hu; cases hu
      refine LE_pr ⟨fun h => .inr ⟨h2, .inr h⟩, fun h => ?_⟩
      have h3 : x.v = 5 := Decidable.not_not.1 h3
      rcases h with h | ⟨_, h | h⟩
      · omega
      · exact absurd h3 h
      · exact h

theorem c_wrong (l : List Sg) (i : Nat) (x : Sg) (hx : l[i]? = some x) (hl : l.length ≤ 256) : CallsG Tryz.prog 59 [.sl sgE l, i64 i] [] (i64 (errAt (lastAt l i) x)) [] := by
  refine calls_to tok mix Tryz.func59 rfl rfl rfl ?_
  have hi : i < l.length := (List.getElem?_eq_some_iff.1 hx).1
  refine Ob.mk ⟨by omega, by omega⟩ ?_
  intro y hy
  have hy : l[i]? = some y := hy
  rw [hx] at hy; cases hy
  refine CallV.to _ (c_named' x.v) rfl ?_
  refine Br.mk (fun h1 => LE_int (by unfold errAt; rw [if_pos h1])) (fun h1 => ?_)
  refine CallV.to _ (c_stands' l i x hx hl) rfl ?_
  refine Br.mk (fun h2 => LE_int (by unfold errAt; rw [if_neg h1, if_pos h2])) (fun h2 => ?_)
  refine Ob.mk ⟨by omega, by omega⟩ ?_
  intro y hy
  have hy : l[i]? = some y := hy
  rw [hx] at hy; cases hy
  refine CallV.to _ (c_three x) rfl ?_
  have bad : ¬ fits x → LE (i64 6) (i64 (errAt (lastAt l i) x)) := fun h => LE_int (by unfold errAt; rw [if_neg h1, if_neg h2, if_pos h])
  have hn : 0 ≤ nm x.v := by omega
  have zOK : ptOK zp := by decide
  refine ⟨Nat, fun k => ⟨[(7, i64 k), (5, i64 (nm x.v)), (6, .loc 0 0)], [(0, .box 55 (ptE x.a ++ ptE x.b ++ ptE x.c))], 1, 51, 0⟩,
    fun k => k ≤ 3 ∧ (1 ≤ k → pk (nm x.v) 0 x.a) ∧ (2 ≤ k → pk (nm x.v) 1 x.b) ∧ (3 ≤ k → pk (nm x.v) 2 x.c), fun k => 3 - k, 0, ?_, ?_, ?_⟩
  · exact ⟨by omega, fun h => by omega, fun h => by omega, fun h => by omega⟩
  · exact sub_of [(0, some 0)] rfl rfl rfl ⟨rfl, rfl, rfl, trivial⟩ ⟨rfl, trivial⟩
  rintro k ⟨k1, k2, k3, k4⟩
  refine Br.mk (fun g1 => ?_) (fun g1 => ?_)
  · have g1 : (k : Int) < 3 := g1
    have hk : k = 0 ∨ k = 1 ∨ k = 2 := by omega
    rcases hk with rfl | rfl | rfl
    · refine Br.mk (fun a1 => ?_) (fun a1 => ?_)
      · refine CallV.to _ (c_pvalid' x.a) rfl ?_
        refine Br.mk (fun a2 => bad (fun h => a2 h.1.1)) (fun a2 => ?_)
        have a2 : ptOK x.a := Decidable.not_not.1 a2
        refine Br.mk (fun a3 => absurd a3 (by omega)) (fun a3 => ?_)
        refine Ar.fit (by omega) ?_
        exact ⟨1, ⟨by omega, fun _ => ⟨a2, fun h => absurd h (by omega)⟩, fun h => by omega, fun h => by omega⟩, sub_of [(0, some 0)] rfl rfl rfl ⟨rfl, rfl, rfl, trivial⟩ ⟨rfl, trivial⟩, by dsimp only; omega⟩
      · refine Br.mk (fun a3 => ?_) (fun a3 => absurd a3 (by omega))
        refine Br.mk (fun a4 => bad (fun h => a4 (pt_eq.2 (h.1.2 (by omega))))) (fun a4 => ?_)
        have a4 : x.a = zp := pt_eq.1 (Decidable.not_not.1 a4)
        refine Ar.fit (by omega) ?_
        exact ⟨1, ⟨by omega, fun _ => ⟨a4 ▸ zOK, fun _ => a4⟩, fun h => by omega, fun h => by omega⟩, sub_of [(0, some 0)] rfl rfl rfl ⟨rfl, rfl, rfl, trivial⟩ ⟨rfl, trivial⟩, by dsimp only; omega⟩
    · refine Br.mk (fun a1 => ?_) (fun a1 => ?_)
      · refine CallV.to _ (c_pvalid' x.b) rfl ?_
        refine Br.mk (fun a2 => bad (fun h => a2 h.2.1.1)) (fun a2 => ?_)
        have a2 : ptOK x.b := Decidable.not_not.1 a2
        refine Br.mk (fun a3 => absurd a3 (by omega)) (fun a3 => ?_)
        refine Ar.fit (by omega) ?_
        exact ⟨2, ⟨by omega, fun _ => k2 (by omega), fun _ => ⟨a2, fun h => absurd h (by omega)⟩, fun h => by omega⟩, sub_of [(0, some 0)] rfl rfl rfl ⟨rfl, rfl, rfl, trivial⟩ ⟨rfl, trivial⟩, by dsimp only; omega⟩
      · refine Br.mk (fun a3 => ?_) (fun a3 => absurd a3 (by omega))
        refine Br.mk (fun a4 => bad (fun h => a4 (pt_eq.2 (h.2.1.2 (by omega))))) (fun a4 => ?_)
        have a4 : x.b = zp := pt_eq.1 (Decidable.not_not.1 a4)
        refine Ar.fit (by omega) ?_
        exact ⟨2, ⟨by omega, fun _ => k2 (by omega), fun _ => ⟨a4 ▸ zOK, fun _ => a4⟩, fun h => by omega⟩, sub_of [(0, some 0)] rfl rfl rfl ⟨rfl, rfl, rfl, trivial⟩ ⟨rfl, trivial⟩, by dsimp only; omega⟩
    · refine Br.mk (fun a1 => ?_) (fun a1 => ?_)
      · refine CallV.to _ (c_pvalid' x.c) rfl ?_
        refine Br.mk (fun a2 => bad (fun h => a2 h.2.2.1)) (fun a2 => ?_)
        have a2 : ptOK x.c := Decidable.not_not.1 a2
        refine Br.mk (fun a3 => absurd a3 (by omega)) (fun a3 => ?_)
        refine Ar.fit (by omega) ?_
        exact ⟨3, ⟨by omega, fun _ => k2 (by omega), fun _ => k3 (by omega), fun _ => ⟨a2, fun h => absurd h (by omega)⟩⟩, sub_of [(0, some 0)] rfl rfl rfl ⟨rfl, rfl, rfl, trivial⟩ ⟨rfl, trivial⟩, by dsimp only; omega⟩
      · refine Br.mk (fun a3 => ?_) (fun a3 => absurd a3 (by omega))
        refine Br.mk (fun a4 => bad (fun h => a4 (pt_eq.2 (h.2.2.2 (by omega))))) (fun a4 => ?_)
        have a4 : x.c = zp := pt_eq.1 (Decidable.not_not.1 a4)
        refine Ar.fit (by omega) ?_
        exact ⟨3, ⟨by omega, fun _ => k2 (by omega), fun _ => k3 (by omega), fun _ => ⟨a4 ▸ zOK, fun _ => a4⟩⟩, sub_of [(0, some 0)] rfl rfl rfl ⟨rfl, rfl, rfl, trivial⟩ ⟨rfl, trivial⟩, by dsimp only; omega⟩
  · have h3 : k = 3 := by have g1 : ¬ (k : Int) < 3 := g1; omega
    subst h3
    exact LE_int (by unfold errAt; rw [if_neg h1, if_neg h2, if_neg (fun h => h ⟨k2 (by omega), k3 (by omega), k4 (by omega)⟩)])

theorem lastAt_succ {l : List Sg} {i : Nat} {x : Sg} (h : l[i]? = some x) : lastAt l (i + 1) = x.v := by
  unfold lastAt; rw [if_neg (by omega), Nat.add_sub_cancel, h]; rfl

theorem c_check' (l : List Sg) : CallsG Tryz.prog 35 [.sl sgE l] [] (twoI (check l)) [] := by
  refine calls_to tok mix Tryz.func35 rfl rfl rfl ?_
  have fin : ∀ {a b : Int}, check l = (a, b) → LE (.tup [i64 a, i64 b]) (twoI (check l)) := fun h => by rw [h]; exact .refl
  intro hl
  refine Br.mk (fun h => fin (by unfold check; rw [if_pos (by omega)])) (fun h => ?_)
  have hc : check l = chk 5 0 l := by unfold check; rw [if_neg (by omega)]
  refine ⟨Nat, fun i => ⟨[(4, i64 i), (0, .sl sgE l)], [], 0, 22, 0⟩, fun i => i ≤ l.length ∧ chk 5 0 l = chk (lastAt l i) i (l.drop i), fun i => l.length - i, 0, ?_, ?_, ?_⟩
  · exact ⟨Nat.zero_le _, rfl⟩
  · exact sub_of [] rfl rfl rfl ⟨rfl, rfl, trivial⟩ trivial
  rintro i ⟨h1, h2⟩
  intro hl1
  refine Br.mk (fun h3 => ?_) (fun h3 => ?_)
  · have hx := List.getElem?_eq_getElem (show i < l.length by omega)
    generalize l[i]'(by omega) = x at hx
    rw [drop_at hx] at h2
    refine CallV.to _ (c_wrong l i x hx (by omega)) rfl ?_
    refine Br.mk (fun h4 => fin ?_) (fun h4 => ?_)
    · rw [hc, h2]; unfold chk; rw [if_pos h4]
    · refine Ar.fit (by omega) ?_
      refine ⟨i + 1, ⟨by omega, ?_⟩, sub_of [] rfl rfl rfl ⟨rfl, rfl, trivial⟩ trivial, by dsimp only; omega⟩
      rw [h2, lastAt_succ hx]; conv => lhs; unfold chk
      rw [if_neg h4]
  · refine fin (hc.trans (h2.trans ?_))
    rw [List.drop_eq_nil_of_le (by omega)]; rfl

theorem c_valid' (l : List Sg) : CallsG Tryz.prog 19 [.sl sgE l] [] (pr (valid l)) [] := by
  refine calls_to tok mix Tryz.func19 rfl rfl rfl ?_
  refine CallV.to _ (c_check' l) rfl ?_
  exact LE_pr Iff.rfl

theorem slist_eq {xs ys : List Sg} {i : Int} (hl : (xs.length : Int) = ys.length) (hi : ¬ i < xs.length) (h : ∀ j : Nat, (j : Int) < i → xs[j]? = ys[j]?) : xs = ys := by
  refine List.ext_getElem? fun j => ?_
  by_cases hj : (j : Int) < i
  · exact h j hj
  · rw [List.getElem?_eq_none (by omega), List.getElem?_eq_none (by omega)]

theorem c_equal' (xs ys : List Sg) : CallsG Tryz.prog 9 [.sl sgE xs, .sl sgE ys] [] (pr (xs = ys)) [] := by
  refine calls_to tok mix Tryz.func9 rfl rfl rfl ?_
  intro hl1 hl2
  refine Br.mk (fun h1 => LE_false fun e => h1 (by rw [e])) (fun h1 => ?_)
  have h1 := Decidable.not_not.1 h1
  refine ⟨Int, fun i => ⟨[(5, i64 i), (0, .sl sgE xs), (1, .sl sgE ys)], [], 0, 26, 0⟩, fun i => 0 ≤ i ∧ i ≤ xs.length ∧ ∀ j : Nat, (j : Int) < i → xs[j]? = ys[j]?, fun i => ((xs.length : Int) - i).toNat, 0, ?_, ?_, ?_⟩
  · exact ⟨by omega, by omega, fun j hj => by omega⟩
  · exact sub_of [] rfl rfl rfl ⟨rfl, rfl, rfl, trivial⟩ trivial
  rintro i ⟨h4, h5, h6⟩
  intro hl3
  refine Br.mk (fun h7 => ?_) (fun h7 => ?_)
  · refine Dr.mk (by decide +kernel) ?_
    refine Ob.mk (by omega) ?_
    intro x hx
    refine Ob.mk (by omega) ?_
    intro y hy
    refine Br.mk (fun h8 => ?_) (fun h8 => ?_)
    · refine LE_false fun e => h8 (sg_eq.2 ?_)
      subst e
      rw [hx] at hy; exact Option.some.inj hy
    · refine Ar.fit (by omega) ?_
      refine ⟨i + 1, ⟨by omega, by omega, fun j hj => ?_⟩, sub_of [] rfl rfl rfl ⟨rfl, rfl, rfl, trivial⟩ trivial, by dsimp only; omega⟩
      by_cases e : j = i.toNat
      · subst e; rw [hx, hy, sg_eq.1 (Decidable.not_not.1 h8)]
      · exact h6 j (by omega)
  · exact LE_true (slist_eq h1 h7 h6)

end Go.Gs
/- The points of a path and its bounds. -/
namespace Go.Gs
open Go.Proofs

theorem nm_range (v : Int) : -1 ≤ nm v ∧ nm v ≤ 3 := by unfold nm; split <;> (try split) <;> (try split) <;> (try split) <;> (try split) <;> omega

def ptsOf (s : Sg) : List Pt := [s.a, s.b, s.c].take (nm s.v).toNat

theorem c_points (s : Sg) : CallsG Tryz.prog 16 [.agg (sgE s)] [] (.sl ptE (ptsOf s)) [] := by
  refine calls_to tok mix Tryz.func16 rfl rfl rfl ?_
  refine ⟨Pt, ptE, [s.a, s.b, s.c], rfl, Ob.mk ⟨rfl, by decide, by decide, by decide, fun x _ => ⟨rfl, rfl, rfl⟩⟩ ?_⟩
  refine CallV.to _ (c_named s.v) rfl ?_
  have hr := nm_range s.v
  refine Sl.see (Ob.mk ⟨by decide, by show 0 ≤ max (nm s.v) 0; omega, by show max (nm s.v) 0 ≤ 3; omega, Int.le_refl _⟩ ?_)
  refine LE_sl ?_
  show ([s.a, s.b, s.c].drop 0).take (max (nm s.v) 0 - 0).toNat = _
  unfold ptsOf
  rw [List.drop_zero]; congr 1; omega

def allPts (l : List Sg) : List Pt := l.flatMap ptsOf
def mnP (p q : Pt) : Pt := ⟨min p.x q.x, min p.y q.y⟩
def mxP (p q : Pt) : Pt := ⟨max p.x q.x, max p.y q.y⟩
def bnd (f : Pt → Pt → Pt) (q : List Pt) : Pt := q.foldl f (q.headD zp)
theorem bnd_first {f : Pt → Pt → Pt} (p : Pt) : bnd f ([] ++ [p]) = f p p := rfl
theorem bnd_next {f : Pt → Pt → Pt} {q : List Pt} (h : q ≠ []) (p : Pt) : bnd f (q ++ [p]) = f (bnd f q) p := by
  cases q with
  | nil => exact absurd rfl h
  | cons a r => simp [bnd, List.foldl_append]
def some? (l : List Sg) : Prop := valid l ∧ allPts l ≠ []
instance (l : List Sg) : Decidable (some? l) := inferInstanceAs (Decidable (_ ∧ _))
def loOf (l : List Sg) : Pt := if valid l then bnd mnP (allPts l) else zp
def hiOf (l : List Sg) : Pt := if valid l then bnd mxP (allPts l) else zp
def bndR (l : List Sg) : SV := .tup [.agg (ptE (loOf l)), .agg (ptE (hiOf l)), pr (some? l)]

theorem allPts_take {l : List Sg} {i : Nat} {x : Sg} (h : l[i]? = some x) : allPts (l.take (i + 1)) = allPts (l.take i) ++ ptsOf x := by
  unfold allPts
  rw [List.take_add_one, h]
  simp [List.flatMap_append]

theorem valid_len {l : List Sg} (h : valid l) : l.length ≤ 256 := by
  unfold valid check at h
  by_cases e : 256 < l.length
  · rw [if_pos e] at h; cases h
  · omega

set_option maxRecDepth 100000 in
theorem c_bounds (l : List Sg) : CallsG Tryz.prog 13 [.sl sgE l] [] (bndR l) [] := by
  refine calls_to tok mix Tryz.func13 rfl rfl rfl ?_
  have fin : ∀ {a b : Pt} {s : SV}, loOf l = a → hiOf l = b → LE s (pr (some? l)) → LE (.tup [.agg (ptE a), .agg (ptE b), s]) (bndR l) := fun h1 h2 h => by
    unfold bndR; rw [h1, h2]; exact LE_tup (.cons .refl (.cons .refl (.cons h .nil)))
  refine CallV.to _ (c_valid l) rfl ?_
  refine Br.mk (fun h => ?_) (fun h => ?_)
  · refine Dr.dyn (Ob.mk (by decide +kernel) ?_)
    refine Ob.mk (by kernel_rfl) ?_
    exact fin (a := zp) (b := zp) (if_neg h) (if_neg h) (LE_false fun hs => h hs.1)
  have h := Decidable.not_not.1 h
  have hlen := valid_len h
  intro hl
  refine ⟨Nat × List Pt, fun q => ⟨[(19, i64 q.1), (18, i64 l.length), (17, .sl sgE l), (7, pr (q.2 ≠ [])), (6, .loc 3 0), (5, .loc 2 0), (3, .loc 1 0), (2, .loc 0 0)],
    [(3, .box 42 (ptE (bnd mxP q.2))), (2, .box 42 (ptE (bnd mnP q.2))), (1, .box 42 (ptE zp)), (0, .box 42 (ptE zp))], 4, 61, 0⟩,
    fun q => q.1 ≤ l.length ∧ q.2 = allPts (l.take q.1), fun q => l.length - q.1, (0, []), ?_, ?_, ?_⟩
  · exact ⟨Nat.zero_le _, rfl⟩
  · exact (sub_put (t := 7) rfl (LE_false (q := ([] : List Pt) ≠ []) (fun h => h rfl))).trans (sub_of [(0, some 0), (1, some 1), (2, some 2), (3, some 3)] rfl rfl rfl ⟨rfl, rfl, rfl, rfl, rfl, rfl, rfl, rfl, trivial⟩ ⟨rfl, rfl, rfl, rfl, trivial⟩)
  rintro ⟨i, q⟩ ⟨h1, h2⟩
  have h1 : i ≤ l.length := h1
  have h2 : q = allPts (l.take i) := h2
  refine Br.mk (fun h3 => ?_) (fun h3 => ?_)
  · have h3 : (i : Int) < l.length := h3
    refine Ob.mk ⟨by dsimp only; omega, h3⟩ ?_
    intro x hx
    have hx : l[i]? = some x := hx
    refine CallV.to _ (c_points x) rfl ?_
    intro hl2
    refine ⟨Nat × List Pt, fun r => ⟨[(26, i64 r.1), (25, i64 (ptsOf x).length), (24, .sl ptE (ptsOf x)), (19, i64 i), (18, i64 l.length), (17, .sl sgE l), (7, pr (r.2 ≠ [])), (6, .loc 3 0), (5, .loc 2 0), (3, .loc 1 0), (2, .loc 0 0)],
      [(3, .box 42 (ptE (bnd mxP r.2))), (2, .box 42 (ptE (bnd mnP r.2))), (1, .box 42 (ptE zp)), (0, .box 42 (ptE zp))], 4, 61, 0⟩,
      fun r => r.1 ≤ (ptsOf x).length ∧ r.2 = q ++ (ptsOf x).take r.1, fun r => (ptsOf x).length - r.1, (0, q), ?_, ?_, ?_⟩
    · exact ⟨Nat.zero_le _, by simp⟩
    · exact sub_of [(0, some 0), (1, some 1), (2, some 2), (3, some 3)] rfl rfl rfl ⟨rfl, rfl, rfl, rfl, rfl, rfl, rfl, rfl, rfl, rfl, rfl, trivial⟩ ⟨rfl, rfl, rfl, rfl, trivial⟩
    rintro ⟨j, r⟩ ⟨j1, j2⟩
    have j1 : j ≤ (ptsOf x).length := j1
    have j2 : r = q ++ (ptsOf x).take j := j2
    refine Br.mk (fun j3 => ?_) (fun j3 => ?_)
    · have j3 : (j : Int) < (ptsOf x).length := j3
      refine Ob.mk ⟨by dsimp only; omega, j3⟩ ?_
      intro p hp
      have hp : (ptsOf x)[j]? = some p := hp
      have hr : r ++ [p] = q ++ (ptsOf x).take (j + 1) := by rw [j2, List.take_add_one, hp, List.append_assoc]; rfl
      have inv : (j + 1, r ++ [p]).1 ≤ (ptsOf x).length ∧ (j + 1, r ++ [p]).2 = q ++ (ptsOf x).take (j + 1, r ++ [p]).1 := ⟨by show j + 1 ≤ _; omega, hr⟩
      refine Br.mk (fun j4 => ?_) (fun j4 => ?_)
      · have j4 : r = [] := Decidable.not_not.1 j4
        refine Dr.dyn (Ob.mk (by decide +kernel) ?_)
        refine Ob.mk (by kernel_rfl) ?_
        refine Ar.fit (by dsimp only; omega) ?_
        refine ⟨(j + 1, r ++ [p]), inv, (sub_put (t := 7) rfl (LE_true (q := r ++ [p] ≠ []) (by simp))).trans (sub_of [(0, some 0), (1, some 1), (2, some 2), (3, some 3)] rfl rfl rfl
          ⟨rfl, rfl, rfl, rfl, rfl, rfl, rfl, rfl, rfl, rfl, rfl, trivial⟩ ⟨congrArg (fun p => some (Mem.box 42 (ptE p))) (show mxP p p = bnd mxP (r ++ [p]) by rw [j4, bnd_first]), congrArg (fun p => some (Mem.box 42 (ptE p))) (show mnP p p = bnd mnP (r ++ [p]) by rw [j4, bnd_first]), rfl, rfl, trivial⟩),
          by show (ptsOf x).length - (j + 1) < (ptsOf x).length - j; omega⟩
      · have j4 : r ≠ [] := fun e => j4 (fun h => h e)
        refine Ar.fit (by dsimp only; omega) ?_
        refine ⟨(j + 1, r ++ [p]), inv, (sub_put (t := 7) rfl (LE_pr (q := r ++ [p] ≠ []) ⟨fun _ => by simp, fun _ => j4⟩)).trans (sub_of [(0, some 0), (1, some 1), (2, some 2), (3, some 3)] rfl rfl rfl
          ⟨rfl, rfl, rfl, rfl, rfl, rfl, rfl, rfl, rfl, rfl, rfl, trivial⟩ ⟨congrArg (fun p => some (Mem.box 42 (ptE p))) (show mxP (bnd mxP r) p = bnd mxP (r ++ [p]) by rw [bnd_next j4]), congrArg (fun p => some (Mem.box 42 (ptE p))) (show mnP (bnd mnP r) p = bnd mnP (r ++ [p]) by rw [bnd_next j4]), rfl, rfl, trivial⟩),
          by show (ptsOf x).length - (j + 1) < (ptsOf x).length - j; omega⟩
    · have j3 : ¬ (j : Int) < (ptsOf x).length := j3
      have hj : j = (ptsOf x).length := by omega
      refine Ar.fit (by omega) ?_
      refine ⟨(i + 1, r), ⟨by show i + 1 ≤ _; omega, by show r = allPts (l.take (i + 1)); rw [j2, hj, List.take_length, h2, allPts_take hx]⟩, sub_of [(0, some 0), (1, some 1), (2, some 2), (3, some 3)] rfl rfl rfl
        ⟨rfl, rfl, rfl, rfl, rfl, rfl, rfl, rfl, trivial⟩ ⟨rfl, rfl, rfl, rfl, trivial⟩, by show l.length - (i + 1) < l.length - i; omega⟩
  · have h3 : ¬ (i : Int) < l.length := h3
    rw [List.take_of_length_le (by omega)] at h2
    subst h2
    refine Dr.dyn (Ob.mk (by decide +kernel) ?_)
    refine Ob.mk (by kernel_rfl) ?_
    exact fin (if_pos h) (if_pos h) (LE_pr ⟨fun hn => ⟨h, hn⟩, fun hs => hs.2⟩)


theorem pts_at {s : Sg} {k : Nat} (h : (k : Int) < nm s.v) : (ptsOf s)[k]? = [s.a, s.b, s.c][k]? := by
  unfold ptsOf; rw [List.getElem?_take, if_pos (by omega)]

end Go.Gs
