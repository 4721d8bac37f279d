/- The points of a path and its bounds. -/
import Derived.Test.YtlhelkkfjniioaaPB
namespace Go.Gs
open Go.Proofs

theorem nm_range (v : Int) : -1 ≤ nm v ∧ nm v ≤ 3 := by unfold nm; split <;> (try split) <;> (try split) <;> (try split) <;> (try split) <;> omega

def ptsOf (s : Sg) : List Pt := [s.a, s.b, s.c].take (nm s.v).toNat

theorem c_points (s : Sg) : CallsG Try.prog 41 [.agg (sgE s)] [] (.sl ptE (ptsOf s)) [] := by
  refine calls_to tok mix Try.func41 rfl rfl rfl ?_
  refine ⟨Pt, ptE, [s.a, s.b, s.c], rfl, Ob.mk ⟨rfl, by decide, by decide, by decide, fun x _ => ⟨rfl, rfl, rfl⟩⟩ ?_⟩
  refine CallV.to _ (c_named s.v) rfl ?_
  have hr := nm_range s.v
  refine Sl.see (Ob.mk ⟨by decide, by show 0 ≤ max (nm s.v) 0; omega, by show max (nm s.v) 0 ≤ 3; omega, Int.le_refl _⟩ ?_)
  refine LE_sl ?_
  show ([s.a, s.b, s.c].drop 0).take (max (nm s.v) 0 - 0).toNat = _
  unfold ptsOf
  rw [List.drop_zero]; congr 1; omega

def allPts (l : List Sg) : List Pt := l.flatMap ptsOf
def mnP (p q : Pt) : Pt := ⟨min p.x q.x, min p.y q.y⟩
def mxP (p q : Pt) : Pt := ⟨max p.x q.x, max p.y q.y⟩
def bnd (f : Pt → Pt → Pt) (q : List Pt) : Pt := q.foldl f (q.headD zp)
theorem bnd_first {f : Pt → Pt → Pt} (p : Pt) : bnd f ([] ++ [p]) = f p p := rfl
theorem bnd_next {f : Pt → Pt → Pt} {q : List Pt} (h : q ≠ []) (p : Pt) : bnd f (q ++ [p]) = f (bnd f q) p := by
  cases q with
  | nil => exact absurd rfl h
  | cons a r => simp [bnd, List.foldl_append]
def some? (l : List Sg) : Prop := valid l ∧ allPts l ≠ []
instance (l : List Sg) : Decidable (some? l) := inferInstanceAs (Decidable (_ ∧ _))
def loOf (l : List Sg) : Pt := if valid l then bnd mnP (allPts l) else zp
def hiOf (l : List Sg) : Pt := if valid l then bnd mxP (allPts l) else zp
def bndR (l : List Sg) : SV := .tup [.agg (ptE (loOf l)), .agg (ptE (hiOf l)), pr (some? l)]

theorem allPts_take {l : List Sg} {i : Nat} {x : Sg} (h : l[i]? = some x) : allPts (l.take (i + 1)) = allPts (l.take i) ++ ptsOf x := by
  unfold allPts
  rw [List.take_add_one, h]
  simp [List.flatMap_append]

theorem valid_len {l : List Sg} (h : valid l) : l.length ≤ 256 := by
  unfold valid check at h
  by_cases e : 256 < l.length
  · rw [if_pos e] at h; cases h
  · omega

set_option maxRecDepth 100000 in
theorem c_bounds (l : List Sg) : CallsG Try.prog 14 [.sl sgE l] [] (bndR l) [] := by
  refine calls_to tok mix Try.func14 rfl rfl rfl ?_
  have fin : ∀ {a b : Pt} {s : SV}, loOf l = a → hiOf l = b → LE s (pr (some? l)) → LE (.tup [.agg (ptE a), .agg (ptE b), s]) (bndR l) := fun h1 h2 h => by
    unfold bndR; rw [h1, h2]; exact LE_tup (.cons .refl (.cons .refl (.cons h .nil)))
  refine CallV.to _ (c_valid l) rfl ?_
  refine Br.mk (fun h => ?_) (fun h => ?_)
  · refine Dr.dyn (Ob.mk (by decide +kernel) ?_)
    refine Ob.mk (by kernel_rfl) ?_
    exact fin (a := zp) (b := zp) (if_neg h) (if_neg h) (LE_false fun hs => h hs.1)
  have h := Decidable.not_not.1 h
  have hlen := valid_len h
  intro hl
  refine ⟨Nat × List Pt, fun q => ⟨[(19, i64 q.1), (18, i64 l.length), (17, .sl sgE l), (7, pr (q.2 ≠ [])), (6, .loc 3 0), (5, .loc 2 0), (3, .loc 1 0), (2, .loc 0 0)],
    [(3, .box 26 (ptE (bnd mxP q.2))), (2, .box 26 (ptE (bnd mnP q.2))), (1, .box 26 (ptE zp)), (0, .box 26 (ptE zp))], 4, 61, 0⟩,
    fun q => q.1 ≤ l.length ∧ q.2 = allPts (l.take q.1), fun q => l.length - q.1, (0, []), ?_, ?_, ?_⟩
  · exact ⟨Nat.zero_le _, rfl⟩
  · exact (sub_put (t := 7) rfl (LE_false (q := ([] : List Pt) ≠ []) (fun h => h rfl))).trans (sub_of [(0, some 0), (1, some 1), (2, some 2), (3, some 3)] rfl rfl rfl ⟨rfl, rfl, rfl, rfl, rfl, rfl, rfl, rfl, trivial⟩ ⟨rfl, rfl, rfl, rfl, trivial⟩)
  rintro ⟨i, q⟩ ⟨h1, h2⟩
  have h1 : i ≤ l.length := h1
  have h2 : q = allPts (l.take i) := h2
  refine Br.mk (fun h3 => ?_) (fun h3 => ?_)
  · have h3 : (i : Int) < l.length := h3
    refine Ob.mk ⟨by dsimp only; omega, h3⟩ ?_
    intro x hx
    have hx : l[i]? = some x := hx
    refine CallV.to _ (c_points x) rfl ?_
    intro hl2
    refine ⟨Nat × List Pt, fun r => ⟨[(26, i64 r.1), (25, i64 (ptsOf x).length), (24, .sl ptE (ptsOf x)), (19, i64 i), (18, i64 l.length), (17, .sl sgE l), (7, pr (r.2 ≠ [])), (6, .loc 3 0), (5, .loc 2 0), (3, .loc 1 0), (2, .loc 0 0)],
      [(3, .box 26 (ptE (bnd mxP r.2))), (2, .box 26 (ptE (bnd mnP r.2))), (1, .box 26 (ptE zp)), (0, .box 26 (ptE zp))], 4, 61, 0⟩,
      fun r => r.1 ≤ (ptsOf x).length ∧ r.2 = q ++ (ptsOf x).take r.1, fun r => (ptsOf x).length - r.1, (0, q), ?_, ?_, ?_⟩
    · exact ⟨Nat.zero_le _, by simp⟩
    · exact sub_of [(0, some 0), (1, some 1), (2, some 2), (3, some 3)] rfl rfl rfl ⟨rfl, rfl, rfl, rfl, rfl, rfl, rfl, rfl, rfl, rfl, rfl, trivial⟩ ⟨rfl, rfl, rfl, rfl, trivial⟩
    rintro ⟨j, r⟩ ⟨j1, j2⟩
    have j1 : j ≤ (ptsOf x).length := j1
    have j2 : r = q ++ (ptsOf x).take j := j2
    refine Br.mk (fun j3 => ?_) (fun j3 => ?_)
    · have j3 : (j : Int) < (ptsOf x).length := j3
      refine Ob.mk ⟨by dsimp only; omega, j3⟩ ?_
      intro p hp
      have hp : (ptsOf x)[j]? = some p := hp
      have hr : r ++ [p] = q ++ (ptsOf x).take (j + 1) := by rw [j2, List.take_add_one, hp, List.append_assoc]; rfl
      have inv : (j + 1, r ++ [p]).1 ≤ (ptsOf x).length ∧ (j + 1, r ++ [p]).2 = q ++ (ptsOf x).take (j + 1, r ++ [p]).1 := ⟨by show j + 1 ≤ _; omega, hr⟩
      refine Br.mk (fun j4 => ?_) (fun j4 => ?_)
      · have j4 : r = [] := Decidable.not_not.1 j4
        refine Dr.dyn (Ob.mk (by decide +kernel) ?_)
        refine Ob.mk (by kernel_rfl) ?_
        refine Ar.fit (by dsimp only; omega) ?_
        refine ⟨(j + 1, r ++ [p]), inv, (sub_put (t := 7) rfl (LE_true (q := r ++ [p] ≠ []) (by simp))).trans (sub_of [(0, some 0), (1, some 1), (2, some 2), (3, some 3)] rfl rfl rfl
          ⟨rfl, rfl, rfl, rfl, rfl, rfl, rfl, rfl, rfl, rfl, rfl, trivial⟩ ⟨congrArg (fun p => some (Mem.box 26 (ptE p))) (show mxP p p = bnd mxP (r ++ [p]) by rw [j4, bnd_first]), congrArg (fun p => some (Mem.box 26 (ptE p))) (show mnP p p = bnd mnP (r ++ [p]) by rw [j4, bnd_first]), rfl, rfl, trivial⟩),
          by show (ptsOf x).length - (j + 1) < (ptsOf x).length - j; omega⟩
      · have j4 : r ≠ [] := fun e => j4 (fun h => h e)
        refine Ar.fit (by dsimp only; omega) ?_
        refine ⟨(j + 1, r ++ [p]), inv, (sub_put (t := 7) rfl (LE_pr (q := r ++ [p] ≠ []) ⟨fun _ => by simp, fun _ => j4⟩)).trans (sub_of [(0, some 0), (1, some 1), (2, some 2), (3, some 3)] rfl rfl rfl
          ⟨rfl, rfl, rfl, rfl, rfl, rfl, rfl, rfl, rfl, rfl, rfl, trivial⟩ ⟨congrArg (fun p => some (Mem.box 26 (ptE p))) (show mxP (bnd mxP r) p = bnd mxP (r ++ [p]) by rw [bnd_next j4]), congrArg (fun p => some (Mem.box 26 (ptE p))) (show mnP (bnd mnP r) p = bnd mnP (r ++ [p]) by rw [bnd_next j4]), rfl, rfl, trivial⟩),
          by show (ptsOf x).length - (j + 1) < (ptsOf x).length - j; omega⟩
    · have j3 : ¬ (j : Int) < (ptsOf x).length := j3
      have hj : j = (ptsOf x).length := by omega
      refine Ar.fit (by omega) ?_
      refine ⟨(i + 1, r), ⟨by show i + 1 ≤ _; omega, by show r = allPts (l.take (i + 1)); rw [j2, hj, List.take_length, h2, allPts_take hx]⟩, sub_of [(0, some 0), (1, some 1), (2, some 2), (3, some 3)] rfl rfl rfl
        ⟨rfl, rfl, rfl, rfl, rfl, rfl, rfl, rfl, trivial⟩ ⟨rfl, rfl, rfl, rfl, trivial⟩, by show l.length - (i + 1) < l.length - i; omega⟩
  · have h3 : ¬ (i : Int) < l.length := h3
    rw [List.take_of_length_le (by omega)] at h2
    subst h2
    refine Dr.dyn (Ob.mk (by decide +kernel) ?_)
    refine Ob.mk (by kernel_rfl) ?_
    exact fin (if_pos h) (if_pos h) (LE_pr ⟨fun hn => ⟨h, hn⟩, fun hs => hs.2⟩)


theorem pts_at {s : Sg} {k : Nat} (h : (k : Int) < nm s.v) : (ptsOf s)[k]? = [s.a, s.b, s.c][k]? := by
  unfold ptsOf; rw [List.getElem?_take, if_pos (by omega)]

theorem c_allPts (l : List Sg) (hlen : l.length ≤ 300) : CallsG Try.prog 42 [.sl sgE l] [] (.sl ptE (allPts l)) [] := by
  refine calls_to tok mix Try.func42 rfl rfl rfl ?_
  have len3 : ∀ n, (allPts (l.take n)).length ≤ n * 3 := fun n => by
    induction n with
    | zero => simp [allPts]
    | succ n ih =>
      cases hx : l[n]? with
      | none => rw [List.take_add_one, hx]; simp; omega
      | some x => rw [allPts_take hx, List.length_append]; have : (ptsOf x).length ≤ 3 := by simp [ptsOf]; omega
                  omega
  refine ⟨Pt, ptE, [], rfl, Ob.mk ⟨rfl, by decide, by decide, by decide, fun x hx => by cases hx⟩ ?_⟩
  refine ⟨Nat, fun i => ⟨[(4, i64 i), (3, .own 0), (0, .sl sgE l)], [(0, .arr 26 ptE 2 (allPts (l.take i)))], 1, 36, 0⟩, fun i => i ≤ l.length, fun i => l.length - i, 0, ?_, ?_, ?_⟩
  · exact Nat.zero_le _
  · exact sub_of [(0, some 0)] rfl rfl rfl ⟨rfl, rfl, rfl, trivial⟩ ⟨rfl, trivial⟩
  rintro i h1
  have h1 : i ≤ l.length := h1
  intro hl1
  refine Br.mk (fun h3 => ?_) (fun h3 => ?_)
  · refine Ob.mk ⟨by omega, h3⟩ ?_
    intro x hx
    have hx : l[i]? = some x := hx
    refine CallV.to _ (c_three x) rfl ?_
    have hr := nm_range x.v
    have hl3 := len3 i
    refine ⟨Nat, fun k => ⟨[(6, i64 k), (5, .loc 1 0), (4, i64 i), (3, .own 0), (0, .sl sgE l)], [(1, .box 77 (ptE x.a ++ ptE x.b ++ ptE x.c)), (0, .arr 26 ptE 2 (allPts (l.take i) ++ (ptsOf x).take k))], 2, 36, 0⟩,
      fun k => k ≤ (ptsOf x).length, fun k => 3 - k, 0, ?_, ?_, ?_⟩
    · exact Nat.zero_le _
    · exact sub_of [(0, some 0), (1, some 1)] rfl rfl rfl ⟨rfl, rfl, rfl, rfl, rfl, trivial⟩ ⟨rfl, congrArg (fun q => some (Mem.arr 26 ptE 2 q)) (by simp), trivial⟩
    rintro k k1
    have k1 : k ≤ (ptsOf x).length := k1
    have hpl : (ptsOf x).length = (nm x.v).toNat := by simp [ptsOf]; omega
    refine Ob.mk ⟨by omega, h3⟩ ?_
    intro y hy
    have hy : l[i]? = some y := hy
    rw [hx] at hy; cases hy
    refine CallV.to _ (c_named' x.v) rfl ?_
    refine Br.mk (fun k2 => ?_) (fun k2 => ?_)
    · have k2 : (k : Int) < nm x.v := k2
      have hp := pts_at k2
      have hk : k = 0 ∨ k = 1 ∨ k = 2 := by omega
      rcases hk with rfl | rfl | rfl
      · have hp : (ptsOf x)[0]? = some x.a := hp
        have hpl2 : 0 < (ptsOf x).length := (List.getElem?_eq_some_iff.1 hp).1
        refine ⟨Pt, ptE, [x.a], rfl, Ob.mk ⟨rfl, by decide, by decide, by decide, fun x _ => ⟨rfl, rfl, rfl⟩⟩ ?_⟩
        refine ⟨_, rfl, Ob.mk ⟨(by show _ * (16 : Int) ≤ _; simp only [List.length_append, List.length_take, List.length_cons, List.length_nil]; omega), (by simp only [List.length_append, List.length_take, List.length_cons, List.length_nil]; omega), by decide, fun _ _ => rfl⟩ ?_⟩
        refine Ar.fit (by decide) ?_
        refine ⟨1, by show 1 ≤ _; omega, sub_of [(0, some 3), (1, some 1)] rfl rfl rfl ⟨rfl, rfl, rfl, rfl, rfl, trivial⟩ ⟨rfl, congrArg (fun q => some (Mem.arr 26 ptE 2 q)) (by rw [List.append_assoc]; congr 1; rw [List.take_add_one (i := 0), hp]; rfl), trivial⟩, by dsimp only; omega⟩
      · have hp : (ptsOf x)[1]? = some x.b := hp
        have hpl2 : 1 < (ptsOf x).length := (List.getElem?_eq_some_iff.1 hp).1
        refine ⟨Pt, ptE, [x.b], rfl, Ob.mk ⟨rfl, by decide, by decide, by decide, fun x _ => ⟨rfl, rfl, rfl⟩⟩ ?_⟩
        refine ⟨_, rfl, Ob.mk ⟨(by show _ * (16 : Int) ≤ _; simp only [List.length_append, List.length_take, List.length_cons, List.length_nil]; omega), (by simp only [List.length_append, List.length_take, List.length_cons, List.length_nil]; omega), by decide, fun _ _ => rfl⟩ ?_⟩
        refine Ar.fit (by decide) ?_
        refine ⟨2, by show 2 ≤ _; omega, sub_of [(0, some 3), (1, some 1)] rfl rfl rfl ⟨rfl, rfl, rfl, rfl, rfl, trivial⟩ ⟨rfl, congrArg (fun q => some (Mem.arr 26 ptE 2 q)) (by rw [List.append_assoc]; congr 1; rw [List.take_add_one (i := 1), hp]; rfl), trivial⟩, by dsimp only; omega⟩
      · have hp : (ptsOf x)[2]? = some x.c := hp
        have hpl2 : 2 < (ptsOf x).length := (List.getElem?_eq_some_iff.1 hp).1
        refine ⟨Pt, ptE, [x.c], rfl, Ob.mk ⟨rfl, by decide, by decide, by decide, fun x _ => ⟨rfl, rfl, rfl⟩⟩ ?_⟩
        refine ⟨_, rfl, Ob.mk ⟨(by show _ * (16 : Int) ≤ _; simp only [List.length_append, List.length_take, List.length_cons, List.length_nil]; omega), (by simp only [List.length_append, List.length_take, List.length_cons, List.length_nil]; omega), by decide, fun _ _ => rfl⟩ ?_⟩
        refine Ar.fit (by decide) ?_
        refine ⟨3, by show 3 ≤ _; omega, sub_of [(0, some 3), (1, some 1)] rfl rfl rfl ⟨rfl, rfl, rfl, rfl, rfl, trivial⟩ ⟨rfl, congrArg (fun q => some (Mem.arr 26 ptE 2 q)) (by rw [List.append_assoc]; congr 1; rw [List.take_add_one (i := 2), hp]; rfl), trivial⟩, by dsimp only; omega⟩
    · have k2 : ¬ (k : Int) < nm x.v := k2
      refine Ar.fit (by omega) ?_
      refine ⟨i + 1, by show i + 1 ≤ _; omega, sub_of [(0, some 0)] rfl rfl rfl ⟨rfl, rfl, rfl, trivial⟩ ⟨congrArg (fun q => some (Mem.arr 26 ptE 2 q)) (by rw [allPts_take hx, List.take_of_length_le (l := ptsOf x) (by omega)]), trivial⟩, by dsimp only; omega⟩
  · refine LE_sl ?_
    rw [List.take_of_length_le (by omega)]

set_option maxRecDepth 100000 in
theorem c_bounds' (l : List Sg) (hlen : l.length ≤ 300) : CallsG Try.prog 15 [.sl sgE l] [] (bndR l) [] := by
  refine calls_to tok mix Try.func15 rfl rfl rfl ?_
  have fin : ∀ {a b : Pt} {s : SV}, loOf l = a → hiOf l = b → LE s (pr (some? l)) → LE (.tup [.agg (ptE a), .agg (ptE b), s]) (bndR l) := fun h1 h2 h => by
    unfold bndR; rw [h1, h2]; exact LE_tup (.cons .refl (.cons .refl (.cons h .nil)))
  refine CallV.to _ (c_allPts l hlen) rfl ?_
  refine CallV.to _ (c_valid' l) rfl ?_
  refine Br.mk (fun h => ?_) (fun h => ?_)
  · exact fin (a := zp) (b := zp) (if_neg h) (if_neg h) (LE_false fun hs => h hs.1)
  have h := Decidable.not_not.1 h
  intro hl
  refine Br.mk (fun h0 => ?_) (fun h0 => ?_)
  · have h0 : allPts l = [] := List.eq_nil_of_length_eq_zero (by omega)
    exact fin (a := zp) (b := zp) (by unfold loOf; rw [if_pos h, h0]; rfl) (by unfold hiOf; rw [if_pos h, h0]; rfl) (LE_false fun hs => hs.2 h0)
  have lo := show loOf l = _ from if_pos h
  have hi := show hiOf l = _ from if_pos h
  have so : some? l := ⟨h, fun e => h0 (by rw [e]; rfl)⟩
  generalize allPts l = q at *
  have hq : 0 < q.length := by omega
  refine Dr.dyn (Ob.mk (by decide +kernel) ?_)
  refine Ob.mk ⟨by omega, by omega⟩ ?_
  intro p hp
  have hp : q[0]? = some p := hp
  refine Ob.mk ⟨by omega, by omega⟩ ?_
  intro p' hp'
  have hp' : q[0]? = some p' := hp'
  rw [hp] at hp'; cases hp'
  refine Ob.mk (by kernel_rfl) ?_
  have hd : q.headD zp = p := by cases q with
    | nil => simp at hp
    | cons a r => simpa using hp
  refine ⟨Nat, fun i => ⟨[(8, i64 i), (7, .loc 3 0), (6, .loc 2 0), (5, .sl ptE q), (3, .loc 1 0), (2, .loc 0 0)],
    [(3, .box 26 (ptE ((q.take i).foldl mxP p))), (2, .box 26 (ptE ((q.take i).foldl mnP p))), (1, .box 26 (ptE zp)), (0, .box 26 (ptE zp))], 4, 69, 0⟩,
    fun i => i ≤ q.length, fun i => q.length - i, 0, ?_, ?_, ?_⟩
  · exact Nat.zero_le _
  · exact sub_of [(0, some 0), (1, some 1), (2, some 2), (3, some 3)] rfl rfl rfl ⟨rfl, rfl, rfl, rfl, rfl, rfl, trivial⟩ ⟨rfl, rfl, rfl, rfl, trivial⟩
  rintro i h1
  have h1 : i ≤ q.length := h1
  intro hl2
  refine Br.mk (fun h2 => ?_) (fun h2 => ?_)
  · have h2 : (i : Int) < q.length := h2
    have hx := List.getElem?_eq_getElem (show i < q.length by omega)
    generalize q[i]'(by omega) = x at hx
    refine Dr.dyn (Ob.mk (by decide +kernel) ?_)
    refine Ob.mk ⟨by omega, h2⟩ ?_
    intro y hy
    have hy : q[i]? = some y := hy
    rw [hx] at hy; cases hy
    refine Ob.mk ⟨by omega, h2⟩ ?_
    intro y hy
    have hy : q[i]? = some y := hy
    rw [hx] at hy; cases hy
    refine Ob.mk (by kernel_rfl) ?_
    refine Dr.dyn (Ob.mk (by decide +kernel) ?_)
    refine Ob.mk ⟨by omega, h2⟩ ?_
    intro y hy
    have hy : q[i]? = some y := hy
    rw [hx] at hy; cases hy
    refine Ob.mk ⟨by omega, h2⟩ ?_
    intro y hy
    have hy : q[i]? = some y := hy
    rw [hx] at hy; cases hy
    refine Ob.mk (by kernel_rfl) ?_
    refine Ar.fit (by omega) ?_
    have st : ∀ f : Pt → Pt → Pt, f ((q.take i).foldl f p) x = (q.take (i + 1)).foldl f p := fun f => by rw [List.take_add_one, hx]; simp [List.foldl_append]
    refine ⟨i + 1, by show i + 1 ≤ _; omega, sub_of [(0, some 0), (1, some 1), (2, some 2), (3, some 3)] rfl rfl rfl ⟨rfl, rfl, rfl, rfl, rfl, rfl, trivial⟩
      ⟨congrArg (fun p => some (Mem.box 26 (ptE p))) (st mxP), congrArg (fun p => some (Mem.box 26 (ptE p))) (st mnP), rfl, rfl, trivial⟩, by dsimp only; omega⟩
  · have h2 : ¬ (i : Int) < q.length := h2
    have hi2 : q.take i = q := List.take_of_length_le (by omega)
    refine Dr.dyn (Ob.mk (by decide +kernel) ?_)
    refine Ob.mk (by kernel_rfl) ?_
    exact fin (by rw [lo]; unfold bnd; rw [hd, hi2]) (by rw [hi]; unfold bnd; rw [hd, hi2]) (LE_true so)

end Go.Gs
