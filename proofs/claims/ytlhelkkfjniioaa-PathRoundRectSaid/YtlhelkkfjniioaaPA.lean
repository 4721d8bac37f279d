/- Segments that may be, the one text. -/
import Derived.Test.YtlhelkkfjniioaaPT0
namespace Go.Gs
open Go.Proofs

structure Pt where
  x : Int
  y : Int
  deriving DecidableEq
def ptE (p : Pt) : List SV := [i64 p.x, i64 p.y]
structure Sg where
  v : Int
  a : Pt
  b : Pt
  c : Pt
  deriving DecidableEq
def sgE (s : Sg) : List SV := [i64 s.v, i64 s.a.x, i64 s.a.y, i64 s.b.x, i64 s.b.y, i64 s.c.x, i64 s.c.y]
def zp : Pt := ⟨0, 0⟩
def ptOK (p : Pt) : Prop := (-1048576 ≤ p.x ∧ p.x ≤ 1048576) ∧ (-1048576 ≤ p.y ∧ p.y ≤ 1048576)
instance (p : Pt) : Decidable (ptOK p) := inferInstanceAs (Decidable (_ ∧ _))
def nm (v : Int) : Int := if v = 1 then 1 else if v = 2 then 1 else if v = 3 then 2 else if v = 4 then 3 else if v = 5 then 0 else -1
theorem pt_eq {p q : Pt} : (p.x = q.x ∧ p.y = q.y ∧ True) ↔ p = q := by
  cases p; cases q; simp
theorem sg_eq {s t : Sg} : (s.v = t.v ∧ s.a.x = t.a.x ∧ s.a.y = t.a.y ∧ s.b.x = t.b.x ∧ s.b.y = t.b.y ∧ s.c.x = t.c.x ∧ s.c.y = t.c.y ∧ True) ↔ s = t := by
  obtain ⟨v, ⟨a, b⟩, ⟨c, d⟩, ⟨e, f⟩⟩ := s
  obtain ⟨v', ⟨a', b'⟩, ⟨c', d'⟩, ⟨e', f'⟩⟩ := t
  simp [and_assoc]

theorem c_named (v : Int) : CallsG Try.prog 44 [i64 v] [] (i64 (nm v)) [] := by
  refine calls_to tok mix Try.func44 rfl rfl rfl ?_
  refine Br.mk (fun h4 => ?_) (fun h4 => ?_)
  · refine Ar.fit (by decide) ?_
    refine Ar.fit (by decide) ?_
    refine Ar.fit (by decide) ?_
    exact LE_int (by rw [h4]; rfl)
  refine Br.mk (fun h3 => ?_) (fun h3 => ?_)
  · refine Ar.fit (by decide) ?_
    refine Ar.fit (by decide) ?_
    exact LE_int (by rw [h3]; rfl)
  refine Br.mk (fun h1 => ?_) (fun h1 => ?_)
  · refine Br.mk (fun _ => ?_) (fun h => absurd h1 h)
    refine Ar.fit (by decide) ?_
    exact LE_int (by rw [h1]; rfl)
  refine Br.mk (fun h2 => ?_) (fun h2 => ?_)
  · refine Ar.fit (by decide) ?_
    exact LE_int (by rw [h2]; rfl)
  refine Br.mk (fun h5 => ?_) (fun h5 => ?_)
  · exact LE_int (by rw [h5]; rfl)
  · exact LE_int (by unfold nm; rw [if_neg h1, if_neg h2, if_neg h3, if_neg h4, if_neg h5])

def clampI (n lo hi : Int) : Int := if n < lo then lo else if hi < n then hi else n
theorem c_clamp (n lo hi : Int) : CallsG Try.prog 61 [i64 n, i64 lo, i64 hi] [] (i64 (clampI n lo hi)) [] := by
  refine calls_to tok mix Try.func61 rfl rfl rfl ?_
  refine Br.mk (fun h => ?_) (fun h => ?_)
  · exact LE_int (by simp [clampI, h])
  refine Br.mk (fun h2 => ?_) (fun h2 => ?_)
  · exact LE_int (by simp [clampI, h, h2])
  · exact LE_int (by simp [clampI, h, h2])

theorem c_held (n : Int) : CallsG Try.prog 119 [i64 n] [] (i64 (clampI n (-1048576) 1048576)) [] := by
  refine calls_to tok mix Try.func119 rfl rfl rfl ?_
  refine CallV.to _ (c_clamp n _ _) rfl ?_
  exact .refl

theorem c_hold (p : Pt) : CallsG Try.prog 98 [.agg (ptE p)] [] (.agg [i64 (clampI p.x (-1048576) 1048576), i64 (clampI p.y (-1048576) 1048576)]) [] := by
  refine calls_to tok mix Try.func98 rfl rfl rfl ?_
  refine Dr.mk (by decide +kernel) ?_
  refine CallV.to _ (c_held p.x) rfl ?_
  refine CallV.to _ (c_held p.y) rfl ?_
  exact .refl

theorem clamp_eq {n lo hi : Int} (_ : lo ≤ hi) : clampI n lo hi = n ↔ lo ≤ n ∧ n ≤ hi := by
  unfold clampI; split <;> (try split) <;> omega

theorem c_vvalid (p : Pt) : CallsG Try.prog 75 [.agg (ptE p)] [] (pr (ptOK p)) [] := by
  refine calls_to tok mix Try.func75 rfl rfl rfl ?_
  refine Dr.mk (by decide +kernel) ?_
  refine CallV.to _ (c_hold p) rfl ?_
  refine LE_pr (p := clampI p.x (-1048576) 1048576 = p.x ∧ clampI p.y (-1048576) 1048576 = p.y ∧ True) ?_
  rw [clamp_eq (by decide), clamp_eq (by decide)]
  exact ⟨fun h => ⟨h.1, h.2.1⟩, fun h => ⟨h.1, h.2, trivial⟩⟩

/-- A point at place 'i' of a segment that names 'n' points. -/
def pk (n i : Int) (p : Pt) : Prop := ptOK p ∧ (n ≤ i → p = zp)
instance (n i : Int) (p : Pt) : Decidable (pk n i p) := inferInstanceAs (Decidable (_ ∧ _))
def fits (s : Sg) : Prop := pk (nm s.v) 0 s.a ∧ pk (nm s.v) 1 s.b ∧ pk (nm s.v) 2 s.c
instance (s : Sg) : Decidable (fits s) := inferInstanceAs (Decidable (_ ∧ _))
theorem fits_iff {s : Sg} : fits s ↔ ∀ (j : Nat) x, [s.a, s.b, s.c][j]? = some x → pk (nm s.v) j x := by
  constructor
  · rintro ⟨h1, h2, h3⟩ j x hx
    match j, hx with
    | 0, hx => cases hx; exact h1
    | 1, hx => cases hx; exact h2
    | 2, hx => cases hx; exact h3
  · exact fun h => ⟨h 0 _ rfl, h 1 _ rfl, h 2 _ rfl⟩

theorem c_fits (s : Sg) : CallsG Try.prog 45 [.agg (sgE s)] [] (pr (fits s)) [] := by
  refine calls_to tok mix Try.func45 rfl rfl rfl ?_
  refine ⟨Pt, ptE, [s.a, s.b, s.c], rfl, Ob.mk ⟨rfl, by decide, by decide, by decide, fun x _ => ⟨rfl, rfl, rfl⟩⟩ ?_⟩
  intro _
  refine ⟨Nat, fun i => ⟨[(13, i64 i), (12, i64 3), (11, .own 1), (1, .loc 0 0)], [(1, .arr 26 ptE 2 [s.a, s.b, s.c]), (0, .box 62 (sgE s))], 2, 34, 0⟩,
    fun i => i ≤ 3 ∧ ∀ (j : Nat) x, j < i → [s.a, s.b, s.c][j]? = some x → pk (nm s.v) j x, fun i => 3 - i, 0, ?_, ?_, ?_⟩
  · exact ⟨by omega, fun j x hj => by omega⟩
  · exact sub_of [(0, some 0), (1, some 1)] rfl rfl rfl ⟨rfl, rfl, rfl, rfl, trivial⟩ ⟨rfl, rfl, trivial⟩
  rintro i ⟨h1, h2⟩
  refine Br.mk (fun h3 => ?_) (fun h3 => ?_)
  · have h3 : i < 3 := by omega
    refine Ob.mk ⟨by omega, by show (i : Int) < 3; omega⟩ ?_
    refine Ob.mk ⟨by omega, by show (i : Int) < 3; omega⟩ ?_
    intro x hx
    have hx : [s.a, s.b, s.c][i]? = some x := hx
    refine CallV.to _ (c_vvalid x) rfl ?_
    have out : ¬ pk (nm s.v) i x → ¬ fits s := fun h hf => h (fits_iff.1 hf i x hx)
    refine Br.mk (fun h4 => LE_false (out fun h => h4 h.1)) (fun h4 => ?_)
    have h4 := Decidable.not_not.1 h4
    refine CallV.to _ (c_named s.v) rfl ?_
    have next : pk (nm s.v) i x → (i + 1 ≤ 3 ∧ ∀ (j : Nat) x, j < i + 1 → [s.a, s.b, s.c][j]? = some x → pk (nm s.v) j x) := fun h => ⟨by omega, fun j y hj hy => by
      by_cases e : j = i
      · subst e; rw [hx] at hy; cases hy; exact h
      · exact h2 j y (by omega) hy⟩
    refine Br.mk (fun h5 => ?_) (fun h5 => ?_)
    · refine Br.mk (fun h6 => LE_false (out fun h => h6 (pt_eq.2 (h.2 h5)))) (fun h6 => ?_)
      have h6 : x = zp := pt_eq.1 (Decidable.not_not.1 h6)
      refine Ar.fit (by omega) ?_
      exact ⟨i + 1, next ⟨h4, fun _ => h6⟩, sub_of [(0, some 0), (1, some 1)] rfl rfl rfl ⟨rfl, rfl, rfl, rfl, trivial⟩ ⟨rfl, rfl, trivial⟩, by dsimp only; omega⟩
    · refine Ar.fit (by omega) ?_
      exact ⟨i + 1, next ⟨h4, fun h => absurd h h5⟩, sub_of [(0, some 0), (1, some 1)] rfl rfl rfl ⟨rfl, rfl, rfl, rfl, trivial⟩ ⟨rfl, rfl, trivial⟩, by dsimp only; omega⟩
  · refine LE_true (fits_iff.2 fun j x hx => h2 j x ?_ hx)
    have := (List.getElem?_eq_some_iff.1 hx).1
    have h3 : ¬ ((i : Int) < 3) := h3
    simp at this; omega

def stands (last v : Int) : Prop := v = 1 ∨ (last ≠ 5 ∧ (v ≠ 5 ∨ last ≠ 1))
instance (last v : Int) : Decidable (stands last v) := inferInstanceAs (Decidable (_ ∨ _))
def errAt (last : Int) (s : Sg) : Int := if nm s.v < 0 then 2 else if ¬ stands last s.v then 10 else if ¬ fits s then 6 else 0
/-- The first error behind a segment of the verb 'last', and its place. -/
def chk (last : Int) (i : Nat) : List Sg → Int × Int
  | [] => (0, 0)
  | s :: r => if errAt last s ≠ 0 then (errAt last s, i) else chk s.v (i + 1) r
def check (l : List Sg) : Int × Int := if 256 < l.length then (5, 256) else chk 5 0 l
def valid (l : List Sg) : Prop := (check l).1 = 0
instance (l : List Sg) : Decidable (valid l) := inferInstanceAs (Decidable (_ = _))

theorem drop_at {α : Type} {l : List α} {i : Nat} {x : α} (h : l[i]? = some x) : l.drop i = x :: l.drop (i + 1) := by
  obtain ⟨hl, he⟩ := List.getElem?_eq_some_iff.1 h
  rw [List.drop_eq_getElem_cons hl, he]

def twoI (c : Int × Int) : SV := .tup [i64 c.1, i64 c.2]

set_option maxRecDepth 100000 in
theorem c_check (l : List Sg) : CallsG Try.prog 16 [.sl sgE l] [] (twoI (check l)) [] := by
  refine calls_to tok mix Try.func16 rfl rfl rfl ?_
  have fin : ∀ {a b : Int}, check l = (a, b) → LE (.tup [i64 a, i64 b]) (twoI (check l)) := fun h => by rw [h]; exact .refl
  intro hl
  refine Br.mk (fun h => fin (by unfold check; rw [if_pos (by omega)])) (fun h => ?_)
  have hc : check l = chk 5 0 l := by unfold check; rw [if_neg (by omega)]
  intro hl1
  refine ⟨Nat × Int, fun q => ⟨[(13, i64 q.1), (12, i64 l.length), (11, .sl sgE l), (4, i64 q.2)], [], 0, 52, 0⟩, fun q => q.1 ≤ l.length ∧ chk 5 0 l = chk q.2 q.1 (l.drop q.1), fun q => l.length - q.1, (0, 5), ?_, ?_, ?_⟩
  · exact ⟨Nat.zero_le _, rfl⟩
  · exact sub_of [] rfl rfl rfl ⟨rfl, rfl, rfl, rfl, trivial⟩ trivial
  rintro ⟨i, last⟩ ⟨h1, h2⟩
  have h1 : i ≤ l.length := h1
  have h2 : chk 5 0 l = chk last i (l.drop i) := h2
  refine Br.mk (fun h3 => ?_) (fun h3 => ?_)
  · have h3 : (i : Int) < l.length := h3
    refine Ob.mk ⟨by dsimp only; omega, h3⟩ ?_
    intro x hx
    have hx : l[i]? = some x := hx
    rw [drop_at hx] at h2
    have bad : ∀ {e : Int}, errAt last x = e → e ≠ 0 → check l = (e, (i : Int)) := fun h hn => by
      rw [hc, h2]; unfold chk; rw [if_pos (by rw [h]; exact hn), h]
    have good : errAt last x = 0 → (i + 1, x.v).1 ≤ l.length ∧ chk 5 0 l = chk (i + 1, x.v).2 (i + 1, x.v).1 (l.drop (i + 1, x.v).1) := fun h => ⟨by show i + 1 ≤ _; omega, by
      show _ = chk x.v (i + 1) _
      rw [h2]; conv => lhs; unfold chk
      rw [if_neg (fun hn => hn h)]⟩
    refine Br.mk (fun j1 => ?_) (fun j1 => ?_)
    · have st : stands last x.v := .inl j1
      refine CallV.to _ (c_named x.v) rfl ?_
      refine Br.mk (fun k1 => fin (bad (by unfold errAt; rw [if_pos k1]) (by decide))) (fun k1 => ?_)
      refine CallV.to _ (c_fits x) rfl ?_
      refine Br.mk (fun k2 => fin (bad (by unfold errAt; rw [if_neg k1, if_neg (fun h => h st), if_pos k2]) (by decide))) (fun k2 => ?_)
      refine Ar.fit (by dsimp only; omega) ?_
      exact ⟨(i + 1, x.v), good (by unfold errAt; rw [if_neg k1, if_neg (fun h => h st), if_neg k2]), sub_of [] rfl rfl rfl ⟨rfl, rfl, rfl, rfl, trivial⟩ trivial, by show l.length - (i + 1) < l.length - i; omega⟩
    refine Br.mk (fun j2 => ?_) (fun j2 => ?_)
    · refine Br.mk (fun j3 => ?_) (fun j3 => ?_)
      · have st : stands last x.v := .inr ⟨j2, .inl j3⟩
        refine CallV.to _ (c_named x.v) rfl ?_
        refine Br.mk (fun k1 => fin (bad (by unfold errAt; rw [if_pos k1]) (by decide))) (fun k1 => ?_)
        refine CallV.to _ (c_fits x) rfl ?_
        refine Br.mk (fun k2 => fin (bad (by unfold errAt; rw [if_neg k1, if_neg (fun h => h st), if_pos k2]) (by decide))) (fun k2 => ?_)
        refine Ar.fit (by dsimp only; omega) ?_
        exact ⟨(i + 1, x.v), good (by unfold errAt; rw [if_neg k1, if_neg (fun h => h st), if_neg k2]), sub_of [] rfl rfl rfl ⟨rfl, rfl, rfl, rfl, trivial⟩ trivial, by show l.length - (i + 1) < l.length - i; omega⟩
      · refine CallV.to _ (c_named x.v) rfl ?_
        refine Br.mk (fun k1 => fin (bad (by unfold errAt; rw [if_pos k1]) (by decide))) (fun k1 => ?_)
        have j3 := Decidable.not_not.1 j3
        have ns : ¬ last ≠ 1 → ¬ stands last x.v := fun k0 st => by
          rcases st with st | ⟨_, st | st⟩
          · exact j1 st
          · exact st j3
          · exact k0 st
        refine Br.mk (fun k0 => fin (bad (by unfold errAt; rw [if_neg k1, if_pos (ns k0)]) (by decide))) (fun k0 => ?_)
        have st : stands last x.v := .inr ⟨j2, .inr (Decidable.not_not.1 k0)⟩
        refine CallV.to _ (c_fits x) rfl ?_
        refine Br.mk (fun k2 => fin (bad (by unfold errAt; rw [if_neg k1, if_neg (fun h => h st), if_pos k2]) (by decide))) (fun k2 => ?_)
        refine Ar.fit (by dsimp only; omega) ?_
        exact ⟨(i + 1, x.v), good (by unfold errAt; rw [if_neg k1, if_neg (fun h => h st), if_neg k2]), sub_of [] rfl rfl rfl ⟨rfl, rfl, rfl, rfl, trivial⟩ trivial, by show l.length - (i + 1) < l.length - i; omega⟩
    · refine CallV.to _ (c_named x.v) rfl ?_
      refine Br.mk (fun k1 => fin (bad (by unfold errAt; rw [if_pos k1]) (by decide))) (fun k1 => ?_)
      have ns : ¬ stands last x.v := fun st => by
        rcases st with st | ⟨st, _⟩
        · exact j1 st
        · exact j2 st
      exact fin (bad (by unfold errAt; rw [if_neg k1, if_pos ns]) (by decide))
  · refine fin (hc.trans (h2.trans ?_))
    rw [List.drop_eq_nil_of_le (by have h3 : ¬ (i : Int) < l.length := h3; omega)]; rfl

theorem c_valid (l : List Sg) : CallsG Try.prog 18 [.sl sgE l] [] (pr (valid l)) [] := by
  refine calls_to tok mix Try.func18 rfl rfl rfl ?_
  refine CallV.to _ (c_check l) rfl ?_
  exact LE_pr Iff.rfl
end Go.Gs
