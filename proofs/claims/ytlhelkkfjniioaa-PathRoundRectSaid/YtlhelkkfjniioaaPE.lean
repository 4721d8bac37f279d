/- Points copied, turned round, laid into a segment. -/
import Derived.Test.YtlhelkkfjniioaaPD
namespace Go.Gs
open Go.Proofs

theorem c_clone (q : List Pt) (hq : q.length ≤ 256) : CallsG Try.prog 79 [.sl ptE q] [] (.own 0) [(0, .arr 26 ptE 2 q)] := by
  refine calls_own tok mix Try.func79 rfl rfl rfl ?_
  by_cases h0 : q = []
  · refine NilC.any (Br.mk ?_ ?_)
    · exact ⟨none, .nil rfl, h0⟩
    · refine ⟨Pt, ptE, [], rfl, Ob.mk ⟨rfl, by decide, by decide, by decide, fun x hx => by cases hx⟩ ?_⟩
      refine ⟨q, rfl, Ob.mk ⟨(by show _ * (16 : Int) ≤ _; simp only [List.length_nil]; omega), (by simp only [List.length_nil]; omega), by decide, fun _ _ => rfl⟩ ?_⟩
      exact ⟨some 1, .own _ rfl, rfl, fun _ _ => rfl⟩
  · refine NilC.some (fun h => h0 (List.eq_nil_of_length_eq_zero h)) ?_
    refine ⟨Pt, ptE, [], rfl, Ob.mk ⟨rfl, by decide, by decide, by decide, fun x hx => by cases hx⟩ ?_⟩
    refine ⟨q, rfl, Ob.mk ⟨(by show _ * (16 : Int) ≤ _; simp only [List.length_nil]; omega), (by simp only [List.length_nil]; omega), by decide, fun _ _ => rfl⟩ ?_⟩
    exact ⟨some 1, .own _ rfl, rfl, fun _ _ => rfl⟩

theorem c_rev (q : List Pt) (hq : q.length ≤ 2) : CallsG Try.prog 80 [.own 0] [(0, .arr 26 ptE 2 q)] (.tup []) [(0, .arr 26 ptE 2 q.reverse)] := by
  refine calls_mut tok mix Try.func80 rfl rfl rfl (fun _ _ => rfl) rfl ?_
  intro _
  match q, hq with
  | [], _ =>
    refine Ar.fit (by decide) ?_
    refine ⟨Unit, fun _ => ⟨[(3, i64 (-1)), (2, i64 0), (0, .own 0)], [(0, .arr 26 ptE 2 [])], 1, 28, 1⟩, fun _ => True, fun _ => 0, (), trivial, sub_of [(0, some 0)] rfl rfl rfl ⟨rfl, rfl, rfl, trivial⟩ ⟨rfl, trivial⟩, ?_⟩
    intro _ _
    refine Br.mk (fun h => absurd h (by decide)) (fun _ => ?_)
    exact ⟨rfl, .refl⟩
  | [a], _ =>
    refine Ar.fit (by show _ ≤ ((1 : Nat) : Int) - 1 ∧ ((1 : Nat) : Int) - 1 ≤ _; decide) ?_
    refine ⟨Unit, fun _ => ⟨[(3, i64 0), (2, i64 0), (0, .own 0)], [(0, .arr 26 ptE 2 [a])], 1, 28, 1⟩, fun _ => True, fun _ => 0, (), trivial, sub_of [(0, some 0)] rfl rfl rfl ⟨rfl, rfl, rfl, trivial⟩ ⟨rfl, trivial⟩, ?_⟩
    intro _ _
    refine Br.mk (fun h => absurd h (by decide)) (fun _ => ?_)
    exact ⟨rfl, .refl⟩
  | [a, b], _ =>
    refine Ar.fit (by show _ ≤ ((2 : Nat) : Int) - 1 ∧ ((2 : Nat) : Int) - 1 ≤ _; decide) ?_
    refine ⟨Bool, fun t => match t with
      | false => ⟨[(3, i64 1), (2, i64 0), (0, .own 0)], [(0, .arr 26 ptE 2 [a, b])], 1, 28, 1⟩
      | true => ⟨[(3, i64 0), (2, i64 1), (0, .own 0)], [(0, .arr 26 ptE 2 [b, a])], 1, 28, 1⟩, fun _ => True, fun t => match t with | false => 1 | true => 0, false, trivial, sub_of [(0, some 0)] rfl rfl rfl ⟨rfl, rfl, rfl, trivial⟩ ⟨rfl, trivial⟩, ?_⟩
    rintro (_ | _) _
    · refine Br.mk (fun _ => ?_) (fun h => absurd (by decide) h)
      refine Dr.mk (by decide +kernel) ?_
      refine Ob.mk ⟨by decide, by show (1 : Int) < ((2 : Nat) : Int); decide⟩ ?_
      refine Ob.mk ⟨by decide, by show (1 : Int) < ((2 : Nat) : Int); decide⟩ ?_
      intro x hx
      have hx : some b = some x := hx
      cases hx
      refine Ob.mk ⟨by decide, by show (0 : Int) < ((2 : Nat) : Int); decide⟩ ?_
      refine Ob.mk ⟨by decide, by show (0 : Int) < ((2 : Nat) : Int); decide⟩ ?_
      intro x hx
      have hx : some a = some x := hx
      cases hx
      refine Ob.mk ⟨by decide, by show (0 : Int) < ((2 : Nat) : Int); decide⟩ ?_
      refine Ob.mk ⟨by decide, by show (0 : Int) < ((2 : Nat) : Int); decide⟩ ?_
      intro x hx
      refine ⟨b, rfl, ?_⟩
      refine Ob.mk ⟨by decide, by show (1 : Int) < ((2 : Nat) : Int); decide⟩ ?_
      refine Ob.mk ⟨by decide, by show (1 : Int) < ((2 : Nat) : Int); decide⟩ ?_
      intro x hx
      refine ⟨a, rfl, ?_⟩
      refine Ar.fit (by decide) ?_
      refine Ar.fit (by decide) ?_
      exact ⟨true, trivial, sub_of [(0, some 0)] rfl rfl rfl ⟨rfl, rfl, rfl, trivial⟩ ⟨rfl, trivial⟩, by decide⟩
    · refine Br.mk (fun h => absurd h (by decide)) (fun _ => ?_)
      exact ⟨rfl, .refl⟩

def withS (v : Int) (q : List Pt) : Sg := ⟨v, q.getD 0 zp, q.getD 1 zp, q.getD 2 zp⟩

theorem gid (i : Nat) (x : List SV) (hx : [[SV.loc 1 1], [.loc 1 3], [.loc 1 5]][i]? = some x) : ren.rens [(0, some 0), (1, some 1), (2, some 2)] x = some x := by
  match i, hx with
  | 0, hx => cases hx; rfl
  | 1, hx => cases hx; rfl
  | 2, hx => cases hx; rfl

theorem c_with (v : Int) (q : List Pt) : CallsG Try.prog 71 [i64 v, .sl ptE q] [] (.agg (sgE (withS v q))) [] := by
  refine calls_to tok mix Try.func71 rfl rfl rfl ?_
  refine ⟨[[.loc 1 1], [.loc 1 3], [.loc 1 5]], rfl, Ob.mk ⟨rfl, by decide, by decide, by decide, fun x hx => by
    simp only [List.mem_cons, List.not_mem_nil, or_false] at hx
    rcases hx with rfl | rfl | rfl <;> rfl⟩ ?_⟩
  intro _
  refine ⟨Nat, fun i => ⟨[(15, i64 i), (14, i64 3), (13, .own 2), (5, .loc 1 0), (4, .loc 0 0), (1, .sl ptE q)],
    [(2, .garr 75 1 [[.loc 1 1], [.loc 1 3], [.loc 1 5]]), (1, .box 62 (sgE ⟨v, if 1 ≤ i then q.getD 0 zp else zp, if 2 ≤ i then q.getD 1 zp else zp, if 3 ≤ i then q.getD 2 zp else zp⟩)), (0, .box 62 (sgE ⟨0, zp, zp, zp⟩))], 3, 32, 0⟩,
    fun i => i ≤ 3, fun i => 3 - i, 0, by decide, sub_of [(0, some 0), (1, some 1), (2, some 2)] rfl rfl rfl ⟨rfl, rfl, rfl, rfl, rfl, rfl, trivial⟩ ⟨⟨_, rfl, rfl, fun i x hx => ?_⟩, rfl, rfl, trivial⟩, ?_⟩
  · exact ⟨x, hx, gid i x hx⟩
  rintro i hi
  have hi : i ≤ 3 := hi
  have e : i = 0 ∨ i = 1 ∨ i = 2 ∨ i = 3 := by omega
  rcases e with rfl | rfl | rfl | rfl
  · refine Br.mk (fun _ => ?_) (fun h => absurd (by decide) h)
    refine Ob.mk ⟨by decide, by show (0 : Int) < ((3 : Nat) : Int); decide⟩ ?_
    refine Ob.mk ⟨by decide, by show (0 : Int) < ((3 : Nat) : Int); decide⟩ ?_
    intro y hy
    have hy : some [SV.loc 1 1] = some y := hy
    cases hy
    intro _
    refine Br.mk (fun h1 => ?_) (fun h1 => ?_)
    · refine Ob.mk ⟨by decide, h1⟩ ?_
      intro x hx
      have hx : q[0]? = some x := hx
      have hg : q.getD 0 zp = x := by rw [List.getD_eq_getElem?_getD, hx]; rfl
      refine Ar.fit (by decide) ?_
      exact ⟨1, by decide, sub_of [(0, some 0), (1, some 1), (2, some 2)] rfl rfl rfl ⟨rfl, rfl, rfl, rfl, rfl, rfl, trivial⟩ ⟨⟨_, rfl, rfl, fun i x hx => ⟨x, hx, gid i x hx⟩⟩, congrArg (fun p => some (Mem.box 62 (sgE ⟨v, p, zp, zp⟩))) hg.symm, rfl, trivial⟩, by decide⟩
    · have h1 : ¬ ((0 : Nat) : Int) < q.length := h1
      have hg : q.getD 0 zp = zp := by rw [List.getD_eq_getElem?_getD, List.getElem?_eq_none (by omega)]; rfl
      refine Ar.fit (by decide) ?_
      exact ⟨1, by decide, sub_of [(0, some 0), (1, some 1), (2, some 2)] rfl rfl rfl ⟨rfl, rfl, rfl, rfl, rfl, rfl, trivial⟩ ⟨⟨_, rfl, rfl, fun i x hx => ⟨x, hx, gid i x hx⟩⟩, congrArg (fun p => some (Mem.box 62 (sgE ⟨v, p, zp, zp⟩))) hg.symm, rfl, trivial⟩, by decide⟩
  · refine Br.mk (fun _ => ?_) (fun h => absurd (by decide) h)
    refine Ob.mk ⟨by decide, by show (1 : Int) < ((3 : Nat) : Int); decide⟩ ?_
    refine Ob.mk ⟨by decide, by show (1 : Int) < ((3 : Nat) : Int); decide⟩ ?_
    intro y hy
    have hy : some [SV.loc 1 3] = some y := hy
    cases hy
    intro _
    refine Br.mk (fun h1 => ?_) (fun h1 => ?_)
    · refine Ob.mk ⟨by decide, h1⟩ ?_
      intro x hx
      have hx : q[1]? = some x := hx
      have hg : q.getD 1 zp = x := by rw [List.getD_eq_getElem?_getD, hx]; rfl
      refine Ar.fit (by decide) ?_
      exact ⟨2, by decide, sub_of [(0, some 0), (1, some 1), (2, some 2)] rfl rfl rfl ⟨rfl, rfl, rfl, rfl, rfl, rfl, trivial⟩ ⟨⟨_, rfl, rfl, fun i x hx => ⟨x, hx, gid i x hx⟩⟩, congrArg (fun p => some (Mem.box 62 (sgE ⟨v, q.getD 0 zp, p, zp⟩))) hg.symm, rfl, trivial⟩, by decide⟩
    · have h1 : ¬ ((1 : Nat) : Int) < q.length := h1
      have hg : q.getD 1 zp = zp := by rw [List.getD_eq_getElem?_getD, List.getElem?_eq_none (by omega)]; rfl
      refine Ar.fit (by decide) ?_
      exact ⟨2, by decide, sub_of [(0, some 0), (1, some 1), (2, some 2)] rfl rfl rfl ⟨rfl, rfl, rfl, rfl, rfl, rfl, trivial⟩ ⟨⟨_, rfl, rfl, fun i x hx => ⟨x, hx, gid i x hx⟩⟩, congrArg (fun p => some (Mem.box 62 (sgE ⟨v, q.getD 0 zp, p, zp⟩))) hg.symm, rfl, trivial⟩, by decide⟩
  · refine Br.mk (fun _ => ?_) (fun h => absurd (by decide) h)
    refine Ob.mk ⟨by decide, by show (2 : Int) < ((3 : Nat) : Int); decide⟩ ?_
    refine Ob.mk ⟨by decide, by show (2 : Int) < ((3 : Nat) : Int); decide⟩ ?_
    intro y hy
    have hy : some [SV.loc 1 5] = some y := hy
    cases hy
    intro _
    refine Br.mk (fun h1 => ?_) (fun h1 => ?_)
    · refine Ob.mk ⟨by decide, h1⟩ ?_
      intro x hx
      have hx : q[2]? = some x := hx
      have hg : q.getD 2 zp = x := by rw [List.getD_eq_getElem?_getD, hx]; rfl
      refine Ar.fit (by decide) ?_
      exact ⟨3, by decide, sub_of [(0, some 0), (1, some 1), (2, some 2)] rfl rfl rfl ⟨rfl, rfl, rfl, rfl, rfl, rfl, trivial⟩ ⟨⟨_, rfl, rfl, fun i x hx => ⟨x, hx, gid i x hx⟩⟩, congrArg (fun p => some (Mem.box 62 (sgE ⟨v, q.getD 0 zp, q.getD 1 zp, p⟩))) hg.symm, rfl, trivial⟩, by decide⟩
    · have h1 : ¬ ((2 : Nat) : Int) < q.length := h1
      have hg : q.getD 2 zp = zp := by rw [List.getD_eq_getElem?_getD, List.getElem?_eq_none (by omega)]; rfl
      refine Ar.fit (by decide) ?_
      exact ⟨3, by decide, sub_of [(0, some 0), (1, some 1), (2, some 2)] rfl rfl rfl ⟨rfl, rfl, rfl, rfl, rfl, rfl, trivial⟩ ⟨⟨_, rfl, rfl, fun i x hx => ⟨x, hx, gid i x hx⟩⟩, congrArg (fun p => some (Mem.box 62 (sgE ⟨v, q.getD 0 zp, q.getD 1 zp, p⟩))) hg.symm, rfl, trivial⟩, by decide⟩
  · refine Br.mk (fun h => absurd h (by decide)) (fun _ => ?_)
    exact .refl

end Go.Gs
