/- The law of the subpaths. -/
import Derived.Test.YtlhelkkfjniioaaPM
namespace Go.Gs
open Go.Proofs

theorem flat_take_add {S : List (List Sg)} {i : Nat} {g : List Sg} (h : S[i]? = some g) : (S.take (i + 1)).flatten = (S.take i).flatten ++ g := by
  rw [List.take_add_one, h]; simp
theorem flat_take_le {l : List Sg} (i : Nat) : ((subs l).take i).flatten.length ≤ l.length := by
  have h2 : ((subs l).take i).flatten.length ≤ (subs l).flatten.length := by
    conv => rhs; rw [← List.take_append_drop i (subs l)]
    rw [List.flatten_append, List.length_append]; omega
  rwa [subs_flat] at h2
theorem valid_take {l : List Sg} (h : valid l) (i : Nat) : valid ((subs l).take i).flatten :=
  valid_iff.2 ⟨by have := flat_take_le (l := l) i; have := valid_len h; omega, flat_oks _ (fun g hg => subs_grp h g (List.mem_of_mem_take hg)) 5⟩
theorem valid_grp {l g : List Sg} (h : valid l) (hg : g ∈ subs l) : valid g ∧ cntV g = 1 := by
  have hk := subs_grp h g hg
  have h1 : ∀ x ∈ [g], ∃ k, Grp x k := fun x hx => by simp at hx; subst hx; exact hk
  have hl : g.length ≤ 256 := by
    have := mem_len hg
    rw [subs_flat] at this
    have := valid_len h; omega
  have hv : valid g := by
    have := flat_oks [g] h1 5
    exact valid_iff.2 ⟨hl, by simpa using this⟩
  refine ⟨hv, ?_⟩
  have h2 := subs_flatten h1
  have h3 := subs_len hv
  have h4 : [g].flatten = g := by simp
  rw [h4] at h2
  rw [h2] at h3
  unfold cntV
  rw [if_pos hv, ← h3]; rfl

set_option maxRecDepth 100000 in
set_option maxHeartbeats 2000000 in
theorem c_lawSubpaths (l : List Sg) : CallsG Try.prog 9 [.sl sgE l] [] (bl true) [] := by
  refine calls_to tok mix Try.func9 rfl rfl rfl ?_
  refine CallV.to _ (c_few l) rfl ?_
  refine Br.mk (fun _ => CallV.to _ c_example rfl .refl) (fun _ => ?_)
  refine CallV.to _ (c_count l) rfl ?_
  refine ⟨Sg, sgE, [], rfl, Ob.mk ⟨rfl, by decide, by decide, by decide, fun x hx => by cases hx⟩ ?_⟩
  have hcn : 0 ≤ cntV l ∧ cntV l ≤ 256 ∧ (valid l → cntV l = (subs l).length) ∧ (¬ valid l → cntV l = 0) := by
    unfold cntV
    by_cases h : valid l
    · rw [if_pos h, ← subs_len h]
      have h1 := len_le_flat (subs_grp h)
      rw [subs_flat] at h1
      have := valid_len h
      exact ⟨by omega, by omega, fun _ => rfl, fun n => absurd h n⟩
    · rw [if_neg h]; exact ⟨by decide, by decide, fun n => absurd n h, fun _ => rfl⟩
  obtain ⟨n1, n2, n3, n4⟩ := hcn
  generalize hN : cntV l = N at *
  refine ⟨Nat, fun i => ⟨[(5, i64 i), (4, .own 0), (3, i64 N), (0, .sl sgE l)], [(0, .arr 62 sgE 7 ((subs l).take i).flatten)], 1, 74, 0⟩, fun i => (i : Int) ≤ N, fun i => (N - i).toNat, 0, by show ((0 : Nat) : Int) ≤ N; omega,
    sub_of [(0, some 0)] rfl rfl rfl ⟨rfl, rfl, rfl, rfl, trivial⟩ ⟨rfl, trivial⟩, ?_⟩
  rintro i hi
  have hi : (i : Int) ≤ N := hi
  refine Br.mk (fun h1 => ?_) (fun h1 => ?_)
  · have h1 : (i : Int) < N := h1
    have hv : valid l := by
      by_cases hv : valid l
      · exact hv
      · have := n4 hv; omega
    have hlen := n3 hv
    have hg := List.getElem?_eq_getElem (show i < (subs l).length by omega)
    generalize (subs l)[i]'(by omega) = g at hg
    have hgm := List.mem_of_getElem? hg
    obtain ⟨v1, v2⟩ := valid_grp hv hgm
    have cs : CallsG Try.prog 31 [.sl sgE l, i64 i] [] (.tup [.own 0, i64 0]) [(0, .arr 62 sgE 7 g)] := by
      have := c_subpath l i
      have e : subI l i = (g, 0) := by
        unfold subI
        rw [if_neg (fun n => n hv), if_pos ⟨by omega, by omega⟩, Int.toNat_natCast, List.getD_eq_getElem?_getD, hg]; rfl
      rw [e] at this; exact this
    have cc : CallsG Try.prog 19 [.sl sgE g] [] (i64 1) [] := by
      have := c_count g; rw [v2] at this; exact this
    have hadd := flat_take_add hg
    have ca : CallsG Try.prog 29 [.sl sgE ((subs l).take i).flatten, .sl sgE g] [] (.tup [.own 0, i64 0]) [(0, .arr 62 sgE 7 (((subs l).take i).flatten ++ g))] := by
      have := c_append ((subs l).take i).flatten g
      have e : app ((subs l).take i).flatten g = (((subs l).take i).flatten ++ g, 0) := by
        unfold app
        rw [if_neg (fun n => n ⟨valid_take hv i, v1⟩), if_neg]
        have h2 := flat_take_le (l := l) (i + 1)
        rw [hadd, List.length_append] at h2
        have := valid_len hv; omega
      rw [e] at this; exact this
    refine CallV.fresh _ _ cs rfl (sg_flat _) (.inr (sg_scalar _)) ?_
    refine Br.mk (fun k => absurd rfl k) (fun _ => ?_)
    refine CallV.to _ cc rfl ?_
    refine Br.mk (fun k => absurd rfl k) (fun _ => ?_)
    refine CallV.fresh _ _ ca rfl (sg_flat _) (.inr (sg_scalar _)) ?_
    refine Br.mk (fun k => absurd rfl k) (fun _ => ?_)
    refine Ar.fit (by omega) ?_
    exact ⟨i + 1, by show ((i + 1 : Nat) : Int) ≤ N; omega, sub_of [(0, some 2)] rfl rfl rfl ⟨rfl, rfl, rfl, rfl, trivial⟩ ⟨congrArg (fun q => some (Mem.arr 62 sgE 7 q)) hadd.symm, trivial⟩, by dsimp only; omega⟩
  · have h1 : ¬ (i : Int) < N := h1
    by_cases hv : valid l
    · have hlen := n3 hv
      have cs : CallsG Try.prog 31 [.sl sgE l, i64 N] [] (.tup [.own 0, i64 8]) [(0, .arr 62 sgE 7 [])] := by
        have := c_subpath l N
        have e : subI l N = ([], 8) := by
          unfold subI
          rw [if_neg (fun n => n hv), if_neg (fun n => by have := n.2; omega)]
        rw [e] at this; exact this
      refine CallV.fresh _ _ cs rfl (sg_flat _) (.inr (sg_scalar _)) ?_
      refine CallV.to _ (c_valid l) rfl ?_
      refine Br.mk (fun k => absurd hv k) (fun _ => ?_)
      refine Br.mk (fun _ => ?_) (fun k => absurd rfl k)
      refine CallV.to _ (c_equal ((subs l).take i).flatten l) rfl ?_
      have hall : ((subs l).take i).flatten = l := by rw [List.take_of_length_le (by omega), subs_flat]
      refine Br.mk (fun _ => ?_) (fun k => absurd hall k)
      refine CallV.to _ c_example rfl ?_
      exact .refl
    · have h0 := n4 hv
      have cs : CallsG Try.prog 31 [.sl sgE l, i64 N] [] (.tup [.own 0, i64 10]) [(0, .arr 62 sgE 7 [])] := by
        have := c_subpath l N
        have e : subI l N = ([], 10) := if_pos hv
        rw [e] at this; exact this
      refine CallV.fresh _ _ cs rfl (sg_flat _) (.inr (sg_scalar _)) ?_
      refine CallV.to _ (c_valid l) rfl ?_
      refine Br.mk (fun _ => ?_) (fun k => absurd hv k)
      refine Br.mk (fun _ => ?_) (fun k => absurd rfl k)
      refine Br.mk (fun _ => ?_) (fun k => absurd h0 k)
      refine CallV.to _ c_example rfl ?_
      exact .refl
end Go.Gs
