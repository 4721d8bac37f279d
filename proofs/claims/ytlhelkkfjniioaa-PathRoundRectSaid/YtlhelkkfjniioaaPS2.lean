/- Rectangles with round corners: the law. -/
import Derived.Test.YtlhelkkfjniioaaPS1
namespace Go.Gs
open Go.Proofs

set_option maxRecDepth 100000 in
theorem c_lawPoints (u v : List Sg) (hu : u.length ≤ 300) (hv : v.length ≤ 300) :
    CallsG Try.prog 35 [.sl sgE u, .sl sgE v] [] (pr (∀ p ∈ allPts u, p ∈ allPts v)) [] := by
  refine calls_to tok mix Try.func35 rfl rfl rfl ?_
  refine CallV.to _ (c_allPts u hu) rfl ?_
  refine CallV.to _ (c_allPts v hv) rfl ?_
  generalize allPts u = P
  generalize allPts v = Q
  refine ⟨Nat, fun i => ⟨[(7, i64 i), (5, .sl ptE P), (6, .sl ptE Q)], [], 0, 40, 0⟩, fun i => i ≤ P.length ∧ ∀ (j : Nat) p, j < i → P[j]? = some p → p ∈ Q, fun i => P.length - i, 0, ?_, ?_, ?_⟩
  · exact ⟨Nat.zero_le _, fun j p hj => by omega⟩
  · exact sub_of [] rfl rfl rfl ⟨rfl, rfl, rfl, trivial⟩ trivial
  rintro i ⟨h1, h2⟩
  intro hl1
  refine Br.mk (fun h3 => ?_) (fun h3 => ?_)
  · obtain ⟨p, hp⟩ : ∃ p, P[i]? = some p := ⟨_, List.getElem?_eq_getElem (by omega)⟩
    refine ⟨Nat, fun k => ⟨[(9, i64 k), (8, pr (p ∈ Q.take k)), (7, i64 i), (5, .sl ptE P), (6, .sl ptE Q)], [], 0, 40, 0⟩, fun k => k ≤ Q.length, fun k => Q.length - k, 0, ?_, ?_, ?_⟩
    · exact Nat.zero_le _
    · exact (sub_put (t := 8) (s' := pr (p ∈ Q.take 0)) rfl (LE_false (by simp))).trans (sub_of [] rfl rfl rfl ⟨rfl, rfl, rfl, rfl, rfl, trivial⟩ trivial)
    intro k hk
    have hk : k ≤ Q.length := hk
    intro hl2
    refine Br.mk (fun h4 => ?_) (fun h4 => ?_)
    · refine Dr.mk (by decide +kernel) ?_
      refine Br.mk (fun h5 => ?_) (fun h5 => ?_)
      · refine Ar.fit (by omega) ?_
        have hin : p ∈ Q.take (k + 1) := List.mem_of_mem_take (i := k) (by rw [List.take_take, Nat.min_eq_left (Nat.le_succ k)]; exact h5)
        refine ⟨k + 1, by show k + 1 ≤ Q.length; omega, (sub_put (t := 8) (s' := pr (p ∈ Q.take (k + 1))) rfl (LE_true hin)).trans (sub_of [] rfl rfl rfl ⟨rfl, rfl, rfl, rfl, rfl, trivial⟩ trivial), by dsimp only; omega⟩
      · refine Ob.mk (by omega) ?_
        intro x hx
        have hx : P[i]? = some x := hx
        rw [hp] at hx; cases hx
        refine Ob.mk (by omega) ?_
        intro y hy
        have hy : Q[k]? = some y := hy
        refine Ar.fit (by omega) ?_
        have hin : (p.x = y.x ∧ p.y = y.y ∧ True) ↔ p ∈ Q.take (k + 1) := by
          rw [pt_eq, List.take_add_one, hy]
          simp only [Option.toList_some, List.mem_append, List.mem_singleton]
          exact ⟨.inr, fun h => h.resolve_left h5⟩
        refine ⟨k + 1, by show k + 1 ≤ Q.length; omega, (sub_put (t := 8) (s' := pr (p ∈ Q.take (k + 1))) rfl (LE_pr hin)).trans (sub_of [] rfl rfl rfl ⟨rfl, rfl, rfl, rfl, rfl, trivial⟩ trivial), by dsimp only; omega⟩
    · have hkq : Q.take k = Q := List.take_of_length_le (by omega)
      refine Br.mk (fun h5 => ?_) (fun h5 => ?_)
      · rw [hkq] at h5
        exact LE_false fun h => h5 (h p (List.mem_of_getElem? hp))
      · rw [hkq] at h5
        refine Ar.fit (by omega) ?_
        refine ⟨i + 1, ⟨by omega, fun j q hj hq => ?_⟩, sub_of [] rfl rfl rfl ⟨rfl, rfl, rfl, trivial⟩ trivial, by dsimp only; omega⟩
        by_cases e : j = i
        · subst e; rw [hp] at hq; cases hq; exact Decidable.not_not.1 h5
        · exact h2 j q (by omega) hq
  · refine LE_true fun p hpm => ?_
    obtain ⟨j, hj⟩ := List.getElem?_of_mem hpm
    have := (List.getElem?_eq_some_iff.1 hj).1
    exact h2 j p (by omega) hj

/-- Both ways mirrored. -/
theorem both_pts {l : List Sg} : allPts (flipL false (flipL true l)) = (allPts l).map fun p => (⟨(bnd mnP (allPts l)).x + (bnd mxP (allPts l)).x - p.x, (bnd mnP (allPts l)).y + (bnd mxP (allPts l)).y - p.y⟩ : Pt) := by
  have e := flipL_pts true l
  unfold flipL at e ⊢
  rw [map_pts, e.1, e.2, map_pts, List.map_map]
  rfl
theorem both_in {l : List Sg} (h : Sym l) : (∀ p ∈ allPts (flipL false (flipL true l)), p ∈ allPts l) ∧ ∀ p ∈ allPts l, p ∈ allPts (flipL false (flipL true l)) := by
  rw [both_pts]
  refine ⟨fun p hp => ?_, fun p hp => ?_⟩
  · obtain ⟨q, hq, rfl⟩ := List.mem_map.1 hp
    exact h q hq
  · refine List.mem_map.2 ⟨_, h p hp, ?_⟩
    refine pt_eq.1 ⟨by dsimp only; omega, by dsimp only; omega, trivial⟩

theorem flp_of {b : Bool} {l : List Sg} (h : valid l) : flp b l = (flipL b l, 0) := by unfold flp; rw [if_pos h]

set_option maxRecDepth 100000 in
set_option maxHeartbeats 4000000 in
theorem walkRound (a b c d rad : Int) (l m n q : List Sg) (A B : Pt) (s t : Prop) (hs : Decidable s) (ht : Decidable t) (cn : Int) (hst : s ↔ t) (hcn : t → cn = 1) (hnl : ∀ p ∈ allPts n, p ∈ allPts l) (hln : ∀ p ∈ allPts l, p ∈ allPts n) (hv : valid l)
    (ll : l.length ≤ 300) (ln : n.length ≤ 300)
    (r1 : CallsG Try.prog 33 [.agg (reE a b c d), i64 rad] [] (.sl sgE l) [])
    (r2 : CallsG Try.prog 34 [.agg (reE a b c d), i64 rad] [] (.sl sgE l) [])
    (b1 : CallsG Try.prog 14 [.sl sgE l] [] (.tup [.agg (ptE A), .agg (ptE B), .pr s hs]) [])
    (f1 : CallsG Try.prog 25 [.agg (reE a b c d)] [] (.sl sgE q) [])
    (b2 : CallsG Try.prog 14 [.sl sgE q] [] (.tup [.agg (ptE A), .agg (ptE B), .pr t ht]) [])
    (cc : CallsG Try.prog 19 [.sl sgE l] [] (i64 cn) [])
    (g1 : CallsG Try.prog 27 [.sl sgE l, bl true] [] (.tup [.own 0, i64 0]) [(0, .arr 62 sgE 7 m)])
    (g2 : CallsG Try.prog 27 [.sl sgE m, bl false] [] (.tup [.own 0, i64 0]) [(0, .arr 62 sgE 7 n)]) :
    CallsG Try.prog 10 [.agg (reE a b c d), i64 rad] [] (bl true) [] := by
  refine calls_to tok mix Try.func10 rfl rfl rfl ?_
  refine CallV.to _ r1 rfl ?_
  refine CallV.to _ r2 rfl ?_
  refine CallV.to _ (c_equal' l l) rfl ?_
  refine Br.mk (fun k => absurd rfl k) (fun _ => ?_)
  refine CallV.to _ (c_valid l) rfl ?_
  refine Br.mk (fun k => absurd hv k) (fun _ => ?_)
  refine CallV.to _ b1 rfl ?_
  refine CallV.to _ f1 rfl ?_
  refine CallV.to _ b2 rfl ?_
  refine Br.mk (fun k => absurd (pt_eq.2 rfl) k) (fun _ => ?_)
  refine Br.mk (fun k => absurd (pt_eq.2 rfl) k) (fun _ => ?_)
  refine Br.mk (fun k => absurd hst k) (fun _ => ?_)
  refine Br.mk (fun k1 => ?_) (fun k1 => ?_)
  · refine CallV.to _ cc rfl ?_
    refine Br.mk (fun k => absurd (hcn k1) k) (fun _ => ?_)
    refine CallV.fresh _ _ g1 rfl (sg_flat _) (.inr (sg_scalar _)) ?_
    refine CallV.fresh _ _ g2 rfl (sg_flat _) (.inr (sg_scalar _)) ?_
    refine CallV.to _ (c_lawPoints n l ln ll) rfl ?_
    refine Br.mk (fun _ => ?_) (fun k => absurd hnl k)
    refine CallV.to _ (c_lawPoints l n ll ln) rfl ?_
    refine Br.mk (fun _ => ?_) (fun k => absurd hln k)
    refine CallV.to _ c_example rfl ?_
    exact .refl
  · refine CallV.fresh _ _ g1 rfl (sg_flat _) (.inr (sg_scalar _)) ?_
    refine CallV.fresh _ _ g2 rfl (sg_flat _) (.inr (sg_scalar _)) ?_
    refine CallV.to _ (c_lawPoints n l ln ll) rfl ?_
    refine Br.mk (fun _ => ?_) (fun k => absurd hnl k)
    refine CallV.to _ (c_lawPoints l n ll ln) rfl ?_
    refine Br.mk (fun _ => ?_) (fun k => absurd hln k)
    refine CallV.to _ c_example rfl ?_
    exact .refl

theorem c_lawRound (a b c d rad : Int) : CallsG Try.prog 10 [.agg (reE a b c d), i64 rad] [] (bl true) [] := by
  obtain ⟨h1, h2, h3, h4, h5, h6⟩ := rr_all a b c d rad
  have hm := flipL_valid (b := true) h1
  have hb := both_in h6
  have e1 := c_flip_true (rr a b c d rad)
  rw [flp_of h1] at e1
  have e2 := c_flip_false (flipL true (rr a b c d rad))
  rw [flp_of hm] at e2
  have b2 := c_bounds (rectL a b c d)
  unfold bndR at b2
  rw [h2, h3] at b2
  have hl := valid_len h1
  have hln : (flipL false (flipL true (rr a b c d rad))).length = (rr a b c d rad).length := by unfold flipL; simp
  exact walkRound a b c d rad (rr a b c d rad) (flipL true (rr a b c d rad)) (flipL false (flipL true (rr a b c d rad))) (rectL a b c d) _ _ _ _ _ _ _ h4 h5 hb.1 hb.2 h1 (by omega) (by omega)
    (c_roundRect a b c d rad) (c_roundRect' a b c d rad) (c_bounds (rr a b c d rad)) (c_fromRect a b c d) b2 (c_count (rr a b c d rad)) e1 e2

end Go.Gs
