/- Rectangles with round corners: what is true of the path; the law. -/
import Derived.Test.YtlhelkkfjniioaaPS0
namespace Go.Gs
open Go.Proofs

/-- Mirrored both ways, a path has the same points. -/
def Sym (l : List Sg) : Prop := ∀ p ∈ allPts l, (⟨(bnd mnP (allPts l)).x + (bnd mxP (allPts l)).x - p.x, (bnd mnP (allPts l)).y + (bnd mxP (allPts l)).y - p.y⟩ : Pt) ∈ allPts l

theorem bnd_is {q : List Pt} {x0 y0 x1 y1 : Int} (hin : ∀ p ∈ q, x0 ≤ p.x ∧ p.x ≤ x1 ∧ y0 ≤ p.y ∧ p.y ≤ y1) (h1 : ∃ p ∈ q, p.x = x0) (h2 : ∃ p ∈ q, p.y = y0) (h3 : ∃ p ∈ q, p.x = x1) (h4 : ∃ p ∈ q, p.y = y1) :
    bnd mnP q = ⟨x0, y0⟩ ∧ bnd mxP q = ⟨x1, y1⟩ := by
  obtain ⟨p1, m1, e1⟩ := h1
  obtain ⟨p2, m2, e2⟩ := h2
  obtain ⟨p3, m3, e3⟩ := h3
  obtain ⟨p4, m4, e4⟩ := h4
  have hne : q ≠ [] := fun e => by rw [e] at m1; cases m1
  obtain ⟨⟨r1, n1, f1⟩, ⟨r2, n2, f2⟩, ⟨r3, n3, f3⟩, r4, n4, f4⟩ := bnd_hit hne
  have b1 := bnd_in m1
  have b2 := bnd_in m2
  have b3 := bnd_in m3
  have b4 := bnd_in m4
  have i1 := hin r1 n1
  have i2 := hin r2 n2
  have i3 := hin r3 n3
  have i4 := hin r4 n4
  refine ⟨pt_eq.1 ⟨?_, ?_, trivial⟩, pt_eq.1 ⟨?_, ?_, trivial⟩⟩ <;> dsimp only <;> omega

theorem rr_pts (x0 y0 x1 y1 D k : Int) : allPts (rrL x0 y0 x1 y1 D k) = [⟨x0 + D, y0⟩, ⟨x1 - D, y0⟩, ⟨x1 - D + k, y0⟩, ⟨x1, y0 + D - k⟩, ⟨x1, y0 + D⟩, ⟨x1, y1 - D⟩, ⟨x1, y1 - D + k⟩, ⟨x1 - D + k, y1⟩, ⟨x1 - D, y1⟩,
    ⟨x0 + D, y1⟩, ⟨x0 + D - k, y1⟩, ⟨x0, y1 - D + k⟩, ⟨x0, y1 - D⟩, ⟨x0, y0 + D⟩, ⟨x0, y0 + D - k⟩, ⟨x0 + D - k, y0⟩, ⟨x0 + D, y0⟩] := rfl

structure RR (x0 y0 x1 y1 D k : Int) : Prop where
  c1 : -1048576 ≤ x0
  c2 : x1 ≤ 1048576
  c3 : -1048576 ≤ y0
  c4 : y1 ≤ 1048576
  c5 : 0 ≤ k
  c6 : k ≤ D
  c7 : 2 * D ≤ x1 - x0
  c8 : 2 * D ≤ y1 - y0

theorem rr_in {x0 y0 x1 y1 D k : Int} (h : RR x0 y0 x1 y1 D k) : ∀ p ∈ allPts (rrL x0 y0 x1 y1 D k), x0 ≤ p.x ∧ p.x ≤ x1 ∧ y0 ≤ p.y ∧ p.y ≤ y1 := by
  obtain ⟨h1, h2, h3, h4, h5, h6, h7, h8⟩ := h
  rw [rr_pts]
  simp only [List.mem_cons, List.not_mem_nil, or_false, forall_eq_or_imp, forall_eq]
  refine ⟨?_, ?_, ?_, ?_, ?_, ?_, ?_, ?_, ?_, ?_, ?_, ?_, ?_, ?_, ?_, ?_, ?_⟩ <;> omega

theorem rr_bnd {x0 y0 x1 y1 D k : Int} (h : RR x0 y0 x1 y1 D k) : bnd mnP (allPts (rrL x0 y0 x1 y1 D k)) = ⟨x0, y0⟩ ∧ bnd mxP (allPts (rrL x0 y0 x1 y1 D k)) = ⟨x1, y1⟩ := by
  refine bnd_is (rr_in h) ⟨⟨x0, y1 - D⟩, ?_, rfl⟩ ⟨⟨x0 + D, y0⟩, ?_, rfl⟩ ⟨⟨x1, y0 + D⟩, ?_, rfl⟩ ⟨⟨x1 - D, y1⟩, ?_, rfl⟩ <;> rw [rr_pts] <;> simp

theorem rr_sym {x0 y0 x1 y1 D k : Int} (h : RR x0 y0 x1 y1 D k) : Sym (rrL x0 y0 x1 y1 D k) := by
  unfold Sym
  obtain ⟨e1, e2⟩ := rr_bnd h
  rw [e1, e2, rr_pts]
  intro p hp
  have key : ∀ (i : Nat) (q : Pt), i < 17 → [(⟨x0 + D, y0⟩ : Pt), ⟨x1 - D, y0⟩, ⟨x1 - D + k, y0⟩, ⟨x1, y0 + D - k⟩, ⟨x1, y0 + D⟩, ⟨x1, y1 - D⟩, ⟨x1, y1 - D + k⟩, ⟨x1 - D + k, y1⟩, ⟨x1 - D, y1⟩,
    ⟨x0 + D, y1⟩, ⟨x0 + D - k, y1⟩, ⟨x0, y1 - D + k⟩, ⟨x0, y1 - D⟩, ⟨x0, y0 + D⟩, ⟨x0, y0 + D - k⟩, ⟨x0 + D - k, y0⟩, ⟨x0 + D, y0⟩][i]? = some q → q = ⟨x0 + x1 - p.x, y0 + y1 - p.y⟩ →
      (⟨x0 + x1 - p.x, y0 + y1 - p.y⟩ : Pt) ∈ [(⟨x0 + D, y0⟩ : Pt), ⟨x1 - D, y0⟩, ⟨x1 - D + k, y0⟩, ⟨x1, y0 + D - k⟩, ⟨x1, y0 + D⟩, ⟨x1, y1 - D⟩, ⟨x1, y1 - D + k⟩, ⟨x1 - D + k, y1⟩, ⟨x1 - D, y1⟩,
    ⟨x0 + D, y1⟩, ⟨x0 + D - k, y1⟩, ⟨x0, y1 - D + k⟩, ⟨x0, y1 - D⟩, ⟨x0, y0 + D⟩, ⟨x0, y0 + D - k⟩, ⟨x0 + D - k, y0⟩, ⟨x0 + D, y0⟩] := fun i q _ hq e => by
    rw [← e]; exact List.mem_of_getElem? hq
  simp only [List.mem_cons, List.not_mem_nil, or_false] at hp
  rcases hp with rfl | rfl | rfl | rfl | rfl | rfl | rfl | rfl | rfl | rfl | rfl | rfl | rfl | rfl | rfl | rfl | rfl
  · exact key 8 _ (by decide) rfl (pt_eq.1 ⟨by dsimp only; omega, by dsimp only; omega, trivial⟩)
  · exact key 9 _ (by decide) rfl (pt_eq.1 ⟨by dsimp only; omega, by dsimp only; omega, trivial⟩)
  · exact key 10 _ (by decide) rfl (pt_eq.1 ⟨by dsimp only; omega, by dsimp only; omega, trivial⟩)
  · exact key 11 _ (by decide) rfl (pt_eq.1 ⟨by dsimp only; omega, by dsimp only; omega, trivial⟩)
  · exact key 12 _ (by decide) rfl (pt_eq.1 ⟨by dsimp only; omega, by dsimp only; omega, trivial⟩)
  · exact key 13 _ (by decide) rfl (pt_eq.1 ⟨by dsimp only; omega, by dsimp only; omega, trivial⟩)
  · exact key 14 _ (by decide) rfl (pt_eq.1 ⟨by dsimp only; omega, by dsimp only; omega, trivial⟩)
  · exact key 15 _ (by decide) rfl (pt_eq.1 ⟨by dsimp only; omega, by dsimp only; omega, trivial⟩)
  · exact key 16 _ (by decide) rfl (pt_eq.1 ⟨by dsimp only; omega, by dsimp only; omega, trivial⟩)
  · exact key 1 _ (by decide) rfl (pt_eq.1 ⟨by dsimp only; omega, by dsimp only; omega, trivial⟩)
  · exact key 2 _ (by decide) rfl (pt_eq.1 ⟨by dsimp only; omega, by dsimp only; omega, trivial⟩)
  · exact key 3 _ (by decide) rfl (pt_eq.1 ⟨by dsimp only; omega, by dsimp only; omega, trivial⟩)
  · exact key 4 _ (by decide) rfl (pt_eq.1 ⟨by dsimp only; omega, by dsimp only; omega, trivial⟩)
  · exact key 5 _ (by decide) rfl (pt_eq.1 ⟨by dsimp only; omega, by dsimp only; omega, trivial⟩)
  · exact key 6 _ (by decide) rfl (pt_eq.1 ⟨by dsimp only; omega, by dsimp only; omega, trivial⟩)
  · exact key 7 _ (by decide) rfl (pt_eq.1 ⟨by dsimp only; omega, by dsimp only; omega, trivial⟩)
  · exact key 8 _ (by decide) rfl (pt_eq.1 ⟨by dsimp only; omega, by dsimp only; omega, trivial⟩)

theorem errZ {last : Int} {s : Sg} (u v : Int) (hu : last = u) (hv : s.v = v) (h1 : ¬ nm v < 0) (h2 : stands u v) (h3 : fits s) : errAt last s = 0 := by
  subst hu; subst hv
  unfold errAt; rw [if_neg h1, if_neg (not_not_intro h2), if_neg (not_not_intro h3)]
theorem fits1 {v : Int} {p : Pt} (hv : nm v = 1) (hp : ptOK p) : fits ⟨v, p, zp, zp⟩ := by
  unfold fits; dsimp only; rw [hv]
  exact ⟨⟨hp, fun h => absurd h (by decide)⟩, ⟨zp_ok, fun _ => rfl⟩, ⟨zp_ok, fun _ => rfl⟩⟩
theorem fits3 {p q r : Pt} (hp : ptOK p) (hq : ptOK q) (hr : ptOK r) : fits ⟨4, p, q, r⟩ :=
  ⟨⟨hp, fun h => absurd h (show ¬ nm 4 ≤ 0 by decide)⟩, ⟨hq, fun h => absurd h (show ¬ nm 4 ≤ 1 by decide)⟩, ⟨hr, fun h => absurd h (show ¬ nm 4 ≤ 2 by decide)⟩⟩
theorem fits0 : fits closeS := ⟨⟨zp_ok, fun _ => rfl⟩, ⟨zp_ok, fun _ => rfl⟩, ⟨zp_ok, fun _ => rfl⟩⟩

theorem rr_valid {x0 y0 x1 y1 D k : Int} (h : RR x0 y0 x1 y1 D k) : valid (rrL x0 y0 x1 y1 D k) := by
  have ok : ∀ p ∈ allPts (rrL x0 y0 x1 y1 D k), ptOK p := fun p hp => by
    have := rr_in h p hp
    obtain ⟨h1, h2, h3, h4, h5, h6, h7, h8⟩ := h
    unfold ptOK; omega
  rw [rr_pts] at ok
  simp only [List.mem_cons, List.not_mem_nil, or_false, forall_eq_or_imp, forall_eq] at ok
  obtain ⟨o0, o1, o2, o3, o4, o5, o6, o7, o8, o9, o10, o11, o12, o13, o14, o15, o16⟩ := ok
  refine valid_iff.2 ⟨(by show 10 ≤ 256; decide), ?_⟩
  exact ⟨errZ 5 1 rfl rfl (by decide) (by decide) (fits1 rfl o0), errZ 1 2 rfl rfl (by decide) (by decide) (fits1 rfl o1), errZ 2 4 rfl rfl (by decide) (by decide) (fits3 o2 o3 o4), errZ 4 2 rfl rfl (by decide) (by decide) (fits1 rfl o5), errZ 2 4 rfl rfl (by decide) (by decide) (fits3 o6 o7 o8), errZ 4 2 rfl rfl (by decide) (by decide) (fits1 rfl o9), errZ 2 4 rfl rfl (by decide) (by decide) (fits3 o10 o11 o12), errZ 4 2 rfl rfl (by decide) (by decide) (fits1 rfl o13), errZ 2 4 rfl rfl (by decide) (by decide) (fits3 o14 o15 o16), errZ 4 5 rfl rfl (by decide) (by decide) (fits0), trivial⟩

/-! ### The rectangle itself -/
theorem re_pts {a b c d : Int} (h : rok a b c d) : allPts (rectL a b c d) = [⟨a * 256, b * 256⟩, ⟨c * 256, b * 256⟩, ⟨c * 256, d * 256⟩, ⟨a * 256, d * 256⟩] := by
  unfold rectL; rw [if_pos h]; rfl
theorem re_in {a b c d : Int} (h : rok a b c d) : ∀ p ∈ allPts (rectL a b c d), a * 256 ≤ p.x ∧ p.x ≤ c * 256 ∧ b * 256 ≤ p.y ∧ p.y ≤ d * 256 := by
  obtain ⟨_, _, _, _, h1, h2⟩ := id h
  rw [re_pts h]
  simp only [List.mem_cons, List.not_mem_nil, or_false, forall_eq_or_imp, forall_eq]
  refine ⟨?_, ?_, ?_, ?_⟩ <;> omega
theorem re_bnd {a b c d : Int} (h : rok a b c d) : bnd mnP (allPts (rectL a b c d)) = ⟨a * 256, b * 256⟩ ∧ bnd mxP (allPts (rectL a b c d)) = ⟨c * 256, d * 256⟩ := by
  refine bnd_is (re_in h) ⟨⟨a * 256, b * 256⟩, ?_, rfl⟩ ⟨⟨a * 256, b * 256⟩, ?_, rfl⟩ ⟨⟨c * 256, d * 256⟩, ?_, rfl⟩ ⟨⟨c * 256, d * 256⟩, ?_, rfl⟩ <;> rw [re_pts h] <;> simp
theorem re_sym {a b c d : Int} (h : rok a b c d) : Sym (rectL a b c d) := by
  unfold Sym
  obtain ⟨e1, e2⟩ := re_bnd h
  rw [e1, e2, re_pts h]
  intro p hp
  have key : ∀ (i : Nat) (q : Pt), [(⟨a * 256, b * 256⟩ : Pt), ⟨c * 256, b * 256⟩, ⟨c * 256, d * 256⟩, ⟨a * 256, d * 256⟩][i]? = some q → q = ⟨a * 256 + c * 256 - p.x, b * 256 + d * 256 - p.y⟩ →
      (⟨a * 256 + c * 256 - p.x, b * 256 + d * 256 - p.y⟩ : Pt) ∈ [(⟨a * 256, b * 256⟩ : Pt), ⟨c * 256, b * 256⟩, ⟨c * 256, d * 256⟩, ⟨a * 256, d * 256⟩] := fun i q hq e => by
    rw [← e]; exact List.mem_of_getElem? hq
  simp only [List.mem_cons, List.not_mem_nil, or_false] at hp
  rcases hp with rfl | rfl | rfl | rfl
  · exact key 2 _ rfl (pt_eq.1 ⟨by dsimp only; omega, by dsimp only; omega, trivial⟩)
  · exact key 3 _ rfl (pt_eq.1 ⟨by dsimp only; omega, by dsimp only; omega, trivial⟩)
  · exact key 0 _ rfl (pt_eq.1 ⟨by dsimp only; omega, by dsimp only; omega, trivial⟩)
  · exact key 1 _ rfl (pt_eq.1 ⟨by dsimp only; omega, by dsimp only; omega, trivial⟩)
theorem re_valid (a b c d : Int) : valid (rectL a b c d) := by
  by_cases h : rok a b c d
  · have ok : ∀ p ∈ allPts (rectL a b c d), ptOK p := fun p hp => by
      have := re_in h p hp
      obtain ⟨⟨h1, h2⟩, ⟨h3, h4⟩, ⟨h5, h6⟩, ⟨h7, h8⟩, _⟩ := id h
      unfold ptOK; omega
    rw [re_pts h] at ok
    simp only [List.mem_cons, List.not_mem_nil, or_false, forall_eq_or_imp, forall_eq] at ok
    obtain ⟨o0, o1, o2, o3⟩ := ok
    unfold rectL
    rw [if_pos h]
    refine valid_iff.2 ⟨(by show 5 ≤ 256; decide), ?_⟩
    exact ⟨errZ 5 1 rfl rfl (by decide) (by decide) (fits1 rfl o0), errZ 1 2 rfl rfl (by decide) (by decide) (fits1 rfl o1), errZ 2 2 rfl rfl (by decide) (by decide) (fits1 rfl o2), errZ 2 2 rfl rfl (by decide) (by decide) (fits1 rfl o3), errZ 2 5 rfl rfl (by decide) (by decide) (fits0), trivial⟩
  · unfold rectL; rw [if_neg h]; decide

/-- What the law asks of the path. -/
theorem rr_all (a b c d rad : Int) : valid (rr a b c d rad) ∧ loOf (rectL a b c d) = loOf (rr a b c d rad) ∧ hiOf (rectL a b c d) = hiOf (rr a b c d rad) ∧ (some? (rr a b c d rad) ↔ some? (rectL a b c d)) ∧
    (some? (rectL a b c d) → cntV (rr a b c d rad) = 1) ∧ Sym (rr a b c d rad) := by
  have hv := re_valid a b c d
  by_cases h : rok a b c d
  · have hre : cntV (rectL a b c d) = 1 := by
      unfold cntV; rw [if_pos hv]; unfold rectL; rw [if_pos h]; rfl
    by_cases hD : rrd (a * 256) (b * 256) (c * 256) (d * 256) rad = 0
    · have e : rr a b c d rad = rectL a b c d := by unfold rr; rw [if_pos h, if_pos hD]
      rw [e]
      exact ⟨hv, rfl, rfl, Iff.rfl, fun _ => hre, re_sym h⟩
    · have e : rr a b c d rad = rrL (a * 256) (b * 256) (c * 256) (d * 256) (rrd (a * 256) (b * 256) (c * 256) (d * 256) rad) (rdiv (36195 * rrd (a * 256) (b * 256) (c * 256) (d * 256) rad) 65536) := by
        unfold rr; rw [if_pos h, if_neg hD]
      rw [e]
      obtain ⟨⟨h1, h2⟩, ⟨h3, h4⟩, ⟨h5, h6⟩, ⟨h7, h8⟩, h9, h10⟩ := id h
      obtain ⟨f1, f2, f3⟩ := rrd_facts (x0 := a * 256) (y0 := b * 256) (x1 := c * 256) (y1 := d * 256) (rad := rad) (by omega) (by omega)
      obtain ⟨r1, r2, _⟩ := rrk_facts f1 (by omega)
      have hR : RR (a * 256) (b * 256) (c * 256) (d * 256) (rrd (a * 256) (b * 256) (c * 256) (d * 256) rad) (rdiv (36195 * rrd (a * 256) (b * 256) (c * 256) (d * 256) rad) 65536) :=
        ⟨by omega, by omega, by omega, by omega, r1, r2, f2, f3⟩
      have hrv := rr_valid hR
      have e1 := rr_bnd hR
      have e2 := re_bnd h
      refine ⟨hrv, ?_, ?_, ?_, fun _ => ?_, rr_sym hR⟩
      · unfold loOf; rw [if_pos hv, if_pos hrv, e1.1, e2.1]
      · unfold hiOf; rw [if_pos hv, if_pos hrv, e1.2, e2.2]
      · refine ⟨fun _ => ⟨hv, by rw [re_pts h]; simp⟩, fun _ => ⟨hrv, by rw [rr_pts]; simp⟩⟩
      · unfold cntV; rw [if_pos hrv]; rfl
  · have e : rr a b c d rad = [] := by unfold rr; rw [if_neg h]
    have e2 : rectL a b c d = [] := by unfold rectL; rw [if_neg h]
    rw [e, e2]
    exact ⟨by decide, rfl, rfl, Iff.rfl, fun hs => absurd rfl hs.2, fun p hp => by cases hp⟩

end Go.Gs
