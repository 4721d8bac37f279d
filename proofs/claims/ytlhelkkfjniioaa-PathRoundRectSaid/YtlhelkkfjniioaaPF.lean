/- A subpath turned round. -/
import Derived.Test.YtlhelkkfjniioaaPE
namespace Go.Gs
open Go.Proofs

def endP (s : Sg) : Pt := if nm s.v = 3 then s.c else if nm s.v = 2 then s.b else s.a
theorem pts_last {s : Sg} (h : 1 ≤ nm s.v) : ((ptsOf s).length : Int) = nm s.v ∧ ∀ {n : Nat} {p : Pt}, (n : Int) = nm s.v - 1 → (ptsOf s)[n]? = some p → p = endP s := by
  have hr := nm_range s.v
  refine ⟨by simp [ptsOf]; omega, fun {n p} hn hp => ?_⟩
  rw [pts_at (by omega)] at hp
  have e : nm s.v = 1 ∨ nm s.v = 2 ∨ nm s.v = 3 := by omega
  unfold endP
  rcases e with e | e | e
  · have : n = 0 := by omega
    subst this
    rw [if_neg (by omega), if_neg (by omega)]; cases hp; rfl
  · have : n = 1 := by omega
    subst this
    rw [if_neg (by omega), if_pos e]; cases hp; rfl
  · have : n = 2 := by omega
    subst this
    rw [if_pos e]; cases hp; rfl

theorem c_end (s : Sg) (h : 1 ≤ nm s.v) : CallsG Try.prog 78 [.agg (sgE s)] [] (.agg (ptE (endP s))) [] := by
  refine calls_to tok mix Try.func78 rfl rfl rfl ?_
  have hr := nm_range s.v
  obtain ⟨h1, h2⟩ := pts_last h
  refine CallV.to _ (c_points s) rfl ?_
  intro _
  refine Ar.fit (by omega) ?_
  refine Ob.mk ⟨by omega, by omega⟩ ?_
  intro p hp
  have := h2 (by omega) hp
  subst this
  exact .refl

theorem c_end' (s : Sg) (h : 1 ≤ nm s.v) : CallsG Try.prog 81 [.agg (sgE s)] [] (.agg (ptE (endP s))) [] := by
  refine calls_to tok mix Try.func81 rfl rfl rfl ?_
  have hr := nm_range s.v
  have e : nm s.v = 1 ∨ nm s.v = 2 ∨ nm s.v = 3 := by omega
  refine Dr.mk (by decide +kernel) ?_
  refine CallV.to _ (c_three s) rfl ?_
  have cn := c_named' s.v
  unfold endP
  rcases e with e | e | e
  · rw [e] at cn
    refine CallV.to _ cn rfl ?_
    refine Ar.fit (by decide) ?_
    rw [if_neg (by omega), if_neg (by omega)]; exact .refl
  · rw [e] at cn
    refine CallV.to _ cn rfl ?_
    refine Ar.fit (by decide) ?_
    rw [if_neg (by omega), if_pos e]; exact .refl
  · rw [e] at cn
    refine CallV.to _ cn rfl ?_
    refine Ar.fit (by decide) ?_
    rw [if_pos e]; exact .refl

def backS (s : Sg) (to : Pt) : Sg := if s.v = 3 then ⟨3, s.a, to, zp⟩ else if s.v = 4 then ⟨4, s.b, s.a, to⟩ else ⟨2, to, zp, zp⟩
theorem c_back (s : Sg) (to : Pt) : CallsG Try.prog 82 [.agg (sgE s), .agg (ptE to)] [] (.agg (sgE (backS s to))) [] := by
  refine calls_to tok mix Try.func82 rfl rfl rfl ?_
  refine Br.mk (fun h => ?_) (fun h => ?_)
  · have e : backS s to = ⟨3, s.a, to, zp⟩ := if_pos h
    rw [e]; exact .refl
  refine Br.mk (fun h2 => ?_) (fun h2 => ?_)
  · have e : backS s to = ⟨4, s.b, s.a, to⟩ := by unfold backS; rw [if_neg h, if_pos h2]
    rw [e]; exact .refl
  · have e : backS s to = ⟨2, to, zp, zp⟩ := by unfold backS; rw [if_neg h, if_neg h2]
    rw [e]; exact .refl

theorem back_with {s : Sg} (h : s.v = 2 ∨ s.v = 3 ∨ s.v = 4) {q : List Pt} (hq : q = (ptsOf s).dropLast) (to : Pt) : withS s.v (q.reverse ++ [to]) = backS s to := by
  subst hq
  obtain ⟨v, a, b, c⟩ := s
  rcases h with h | h | h <;> (dsimp only at h; subst h; rfl)

def backs : Sg → List Sg → List Sg
  | _, [] => []
  | p, s :: r => backs s r ++ [backS s (endP p)]
theorem backs_len : ∀ (p : Sg) (r : List Sg), (backs p r).length = r.length
  | _, [] => rfl
  | _, s :: r => by simp [backs, backs_len s r]
def turnB : List Sg → List Sg
  | [] => []
  | m :: mid => ⟨1, endP (mid.getLastD m), zp, zp⟩ :: backs m mid
def closeS : Sg := ⟨5, zp, zp, zp⟩
theorem turnB_len (b : List Sg) : (turnB b).length = b.length := by cases b <;> simp [turnB, backs_len]

theorem last_of {m x : Sg} {mid : List Sg} {n : Nat} (h : (m :: mid)[n]? = some x) (hn : n = mid.length) : x = mid.getLastD m := by
  subst hn
  induction mid generalizing m with
  | nil => simp at h; exact h.symm
  | cons a r ih => rw [List.getLastD_cons]; exact ih (m := a) h

theorem verb_nm {s : Sg} (h : s.v = 1 ∨ s.v = 2 ∨ s.v = 3 ∨ s.v = 4) : 1 ≤ nm s.v ∧ s.v ≠ 5 := by
  rcases h with h | h | h | h <;> rw [h] <;> decide

set_option maxRecDepth 100000 in
theorem c_turnO (m : Sg) (mid : List Sg) (hm : m.v = 1) (hmid : ∀ s ∈ mid, s.v = 2 ∨ s.v = 3 ∨ s.v = 4) (hlen : (m :: mid).length ≤ 256) :
    CallsG Try.prog 49 [.sl sgE (m :: mid)] [] (.own 0) [(0, .arr 62 sgE 7 (turnB (m :: mid)))] := by
  refine calls_own tok mix Try.func49 rfl rfl rfl ?_
  have hlen : mid.length + 1 ≤ 256 := by simpa using hlen
  have hb : ∀ s ∈ m :: mid, s.v = 1 ∨ s.v = 2 ∨ s.v = 3 ∨ s.v = 4 := fun s hs => by
    rcases List.mem_cons.1 hs with rfl | hs
    · exact .inl hm
    · exact .inr (hmid s hs)
  have hL : ((m :: mid).length : Int) = mid.length + 1 := by simp only [List.length_cons]; omega
  intro _
  refine Ar.fit (by omega) ?_
  refine Ob.mk ⟨by omega, by omega⟩ ?_
  intro x hx
  have hxl := last_of hx (by simp only [List.length_cons]; omega)
  have hxb := hb x (List.mem_of_getElem? hx)
  refine Br.mk (fun h => absurd h (verb_nm hxb).2) (fun hn5 => ?_)
  intro _
  refine Ar.fit (by simp only [List.length_cons]; omega) ?_
  refine Ob.mk ⟨by simp only [List.length_cons]; omega, by simp only [List.length_cons]; omega⟩ ?_
  intro z hz
  have hzl := last_of hz (by simp only [List.length_cons]; omega)
  have hzb := hb z (List.mem_of_getElem? hz)
  refine CallV.to _ (c_end z (verb_nm hzb).1) rfl ?_
  refine ⟨Sg, sgE, [⟨1, endP z, zp, zp⟩], rfl, Ob.mk ⟨rfl, by decide, by decide, by decide, fun x _ => ⟨rfl, rfl, rfl⟩⟩ ?_⟩
  intro _
  refine Ar.fit (by simp only [List.length_cons]; omega) ?_
  refine ⟨Nat × Sg, fun q => ⟨[(6, i64 q.1), (5, .own 0), (4, .fn 78 []), (3, bl false), (0, .sl sgE (m :: mid))], [(0, .arr 62 sgE 7 (⟨1, endP z, zp, zp⟩ :: backs q.2 ((m :: mid).drop (q.1 + 1))))], 1, 78, 0⟩,
    fun q => (m :: mid)[q.1]? = some q.2, fun q => q.1, (mid.length, z), ?_, ?_, ?_⟩
  · show (m :: mid)[mid.length]? = some z
    rw [← hz]; congr 1; simp only [List.length_cons]; omega
  · exact (sub_put (t := 3) rfl (LE_no (verb_nm hxb).2)).trans (sub_of [(0, some 0)] rfl rfl rfl ⟨congrArg (fun n => some (i64 n)) (by simp only [List.length_cons]; omega), rfl, rfl, rfl, rfl, trivial⟩ ⟨congrArg (fun r => some (Mem.arr 62 sgE 7 r)) (by rw [List.drop_eq_nil_of_le (by simp)]; rfl), trivial⟩)
  rintro ⟨j, p⟩ hp
  have hp : (m :: mid)[j]? = some p := hp
  have hj : j < mid.length + 1 := by have := (List.getElem?_eq_some_iff.1 hp).1; simpa using this
  have hdl : ((m :: mid).drop (j + 1)).length ≤ 256 := by simp; omega
  refine Br.mk (fun h1 => ?_) (fun h1 => ?_)
  · have h1 : (0 : Int) < j := h1
    obtain ⟨i, rfl⟩ : ∃ i, j = i + 1 := ⟨j - 1, by omega⟩
    have hpm : p ∈ mid := List.mem_of_getElem? (i := i) (by simpa using hp)
    have hpv := hmid p hpm
    have hy := List.getElem?_eq_getElem (show i < (m :: mid).length by simp; omega)
    generalize (m :: mid)[i]'(by simp; omega) = y at hy
    have hyv := hb y (List.mem_of_getElem? hy)
    have step : backs y ((m :: mid).drop (i + 1)) = backs p ((m :: mid).drop (i + 1 + 1)) ++ [backS p (endP y)] := by rw [drop_at hp]; rfl
    refine Ob.mk ⟨by omega, by simp only [List.length_cons]; omega⟩ ?_
    intro p1 hp1
    have hp1 : (m :: mid)[i + 1]? = some p1 := hp1
    rw [hp] at hp1; cases hp1
    refine CallV.to _ (c_points p) rfl ?_
    intro _
    have hr := nm_range p.v
    have hp4 := verb_nm (.inr hpv)
    obtain ⟨hpl, _⟩ := pts_last hp4.1
    refine Ar.fit (by omega) ?_
    refine Ob.mk ⟨⟨by decide, by omega, by omega, Int.le_refl _⟩, fun _ _ => rfl⟩ ?_
    have hq : ((ptsOf p).drop (0 : Int).toNat).take ((((ptsOf p).length : Int) - 1) - 0).toNat = (ptsOf p).dropLast := by
      rw [show (0 : Int).toNat = 0 from rfl, List.drop_zero, List.dropLast_eq_take]; congr 1; omega
    have hql : (ptsOf p).dropLast.length ≤ 2 := by rw [List.length_dropLast]; omega
    rw [hq]
    refine CallV.fresh _ _ (c_clone _ (by omega)) rfl (fun _ _ => rfl) (.inl rfl) ?_
    refine CallV.hand 1 _ _ _ rfl (c_rev _ hql) (fun _ _ => rfl) (fun _ _ => rfl) rfl rfl ?_
    refine Dr.dyn (Ob.mk (by decide +kernel) ?_)
    refine Ob.mk ⟨by omega, by simp only [List.length_cons]; omega⟩ ?_
    intro p1 hp1
    have hp1 : (m :: mid)[i + 1]? = some p1 := hp1
    rw [hp] at hp1; cases hp1
    refine Ar.fit (by omega) ?_
    refine Ob.mk ⟨by omega, by simp only [List.length_cons]; omega⟩ ?_
    intro y1 hy1
    have hy1 : (m :: mid)[i]? = some y1 := by rw [← hy1]; congr 1; omega
    rw [hy] at hy1; cases hy1
    refine CallV.to _ (c_end y (verb_nm hyv).1) rfl ?_
    refine ⟨Pt, ptE, [endP y], rfl, Ob.mk ⟨rfl, by decide, by decide, by decide, fun x _ => ⟨rfl, rfl, rfl⟩⟩ ?_⟩
    refine ⟨[endP y], rfl, Ob.mk ⟨(by show _ * (16 : Int) ≤ _; simp only [List.length_cons, List.length_nil, List.length_reverse]; omega), (by simp only [List.length_cons, List.length_nil, List.length_reverse]; omega), by decide, fun _ _ => rfl⟩ ?_⟩
    refine CallV.to _ (c_with p.v _) rfl ?_
    have hws := back_with hpv rfl (endP y)
    refine ⟨Sg, sgE, [withS p.v ((ptsOf p).dropLast.reverse ++ [endP y])], rfl, Ob.mk ⟨rfl, by decide, by decide, by decide, fun x _ => ⟨rfl, rfl, rfl⟩⟩ ?_⟩
    refine ⟨[withS p.v ((ptsOf p).dropLast.reverse ++ [endP y])], rfl, Ob.mk ⟨(by show _ * (56 : Int) ≤ _; simp only [List.length_cons, List.length_nil, backs_len]; omega), (by simp only [List.length_cons, List.length_nil, backs_len]; omega), by decide, fun _ _ => rfl⟩ ?_⟩
    refine Ob.mk (by kernel_rfl) ?_
    refine Ar.fit (by omega) ?_
    exact ⟨(i, y), hy, sub_of [(0, some 5)] rfl rfl rfl ⟨congrArg (fun n => some (i64 n)) (show ((i + 1 : Nat) : Int) - 1 = (i : Int) by omega), rfl, rfl, rfl, rfl, trivial⟩ ⟨congrArg (fun r => some (Mem.arr 62 sgE 7 r)) (show (⟨1, endP z, zp, zp⟩ :: backs p ((m :: mid).drop (i + 1 + 1))) ++ _ = ⟨1, endP z, zp, zp⟩ :: backs y ((m :: mid).drop (i + 1)) by rw [step, hws]; rfl), trivial⟩, by show i < i + 1; omega⟩
  · have h1 : ¬ (0 : Int) < j := h1
    have h0 : j = 0 := by omega
    subst h0
    have hpm : p = m := by simpa using hp.symm
    subst hpm
    subst hzl
    exact ⟨some 0, .own _ rfl, rfl, fun _ _ => rfl⟩

set_option maxRecDepth 100000 in
theorem c_turnC (m : Sg) (mid : List Sg) (c : Sg) (hc : c.v = 5) (hm : m.v = 1) (hmid : ∀ s ∈ mid, s.v = 2 ∨ s.v = 3 ∨ s.v = 4) (hlen : (m :: mid).length ≤ 256) :
    CallsG Try.prog 49 [.sl sgE ((m :: mid) ++ [c])] [] (.own 0) [(0, .arr 62 sgE 7 (turnB (m :: mid) ++ [closeS]))] := by
  refine calls_own tok mix Try.func49 rfl rfl rfl ?_
  have hlen : mid.length + 1 ≤ 256 := by simpa using hlen
  have hb : ∀ s ∈ m :: mid, s.v = 1 ∨ s.v = 2 ∨ s.v = 3 ∨ s.v = 4 := fun s hs => by
    rcases List.mem_cons.1 hs with rfl | hs
    · exact .inl hm
    · exact .inr (hmid s hs)
  have hL : (((m :: mid) ++ [c]).length : Int) = mid.length + 2 := by simp only [List.length_append, List.length_cons, List.length_nil]; omega
  intro _
  refine Ar.fit (by omega) ?_
  refine Ob.mk ⟨by omega, by omega⟩ ?_
  intro x hx
  have hxc : x = c := by
    have hn : ((((m :: mid) ++ [c]).length : Int) - 1).toNat = (m :: mid).length := by simp only [List.length_append, List.length_cons, List.length_nil]; omega
    exact last_at hx hn
  subst hxc
  refine Br.mk (fun _ => ?_) (fun h => absurd hc h)
  intro _
  refine Ar.fit (by omega) ?_
  refine Ob.mk ⟨⟨by decide, by omega, by omega, Int.le_refl _⟩, fun _ _ => rfl⟩ ?_
  have hcut : (((m :: mid) ++ [x]).drop (0 : Int).toNat).take (((((m :: mid) ++ [x]).length : Int) - 1) - 0).toNat = m :: mid := by
    have hn : (((((m :: mid) ++ [x]).length : Int) - 1) - 0).toNat = (m :: mid).length := by simp only [List.length_append, List.length_cons, List.length_nil]; omega
    rw [hn]; simp
  rw [hcut]
  intro _
  refine Ar.fit (by simp only [List.length_cons]; omega) ?_
  refine Ob.mk ⟨by simp only [List.length_cons]; omega, by simp only [List.length_cons]; omega⟩ ?_
  intro z hz
  have hzl := last_of hz (by simp only [List.length_cons]; omega)
  have hzb := hb z (List.mem_of_getElem? hz)
  refine CallV.to _ (c_end z (verb_nm hzb).1) rfl ?_
  refine ⟨Sg, sgE, [⟨1, endP z, zp, zp⟩], rfl, Ob.mk ⟨rfl, by decide, by decide, by decide, fun x _ => ⟨rfl, rfl, rfl⟩⟩ ?_⟩
  intro _
  refine Ar.fit (by simp only [List.length_cons]; omega) ?_
  refine ⟨Nat × Sg, fun q => ⟨[(6, i64 q.1), (5, .own 0), (4, .fn 78 []), (3, bl true), (0, .sl sgE (m :: mid))], [(0, .arr 62 sgE 7 (⟨1, endP z, zp, zp⟩ :: backs q.2 ((m :: mid).drop (q.1 + 1))))], 1, 78, 0⟩,
    fun q => (m :: mid)[q.1]? = some q.2, fun q => q.1, (mid.length, z), ?_, ?_, ?_⟩
  · show (m :: mid)[mid.length]? = some z
    rw [← hz]; congr 1; simp only [List.length_cons]; omega
  · exact (sub_put (t := 3) rfl (LE_yes hc)).trans (sub_of [(0, some 0)] rfl rfl rfl ⟨congrArg (fun n => some (i64 n)) (by simp only [List.length_cons]; omega), rfl, rfl, rfl, rfl, trivial⟩ ⟨congrArg (fun r => some (Mem.arr 62 sgE 7 r)) (by rw [List.drop_eq_nil_of_le (by simp)]; rfl), trivial⟩)
  rintro ⟨j, p⟩ hp
  have hp : (m :: mid)[j]? = some p := hp
  have hj : j < mid.length + 1 := by have := (List.getElem?_eq_some_iff.1 hp).1; simpa using this
  have hdl : ((m :: mid).drop (j + 1)).length ≤ 256 := by simp; omega
  refine Br.mk (fun h1 => ?_) (fun h1 => ?_)
  · have h1 : (0 : Int) < j := h1
    obtain ⟨i, rfl⟩ : ∃ i, j = i + 1 := ⟨j - 1, by omega⟩
    have hpm : p ∈ mid := List.mem_of_getElem? (i := i) (by simpa using hp)
    have hpv := hmid p hpm
    have hy := List.getElem?_eq_getElem (show i < (m :: mid).length by simp; omega)
    generalize (m :: mid)[i]'(by simp; omega) = y at hy
    have hyv := hb y (List.mem_of_getElem? hy)
    have step : backs y ((m :: mid).drop (i + 1)) = backs p ((m :: mid).drop (i + 1 + 1)) ++ [backS p (endP y)] := by rw [drop_at hp]; rfl
    refine Ob.mk ⟨by omega, by simp only [List.length_cons]; omega⟩ ?_
    intro p1 hp1
    have hp1 : (m :: mid)[i + 1]? = some p1 := hp1
    rw [hp] at hp1; cases hp1
    refine CallV.to _ (c_points p) rfl ?_
    intro _
    have hr := nm_range p.v
    have hp4 := verb_nm (.inr hpv)
    obtain ⟨hpl, _⟩ := pts_last hp4.1
    refine Ar.fit (by omega) ?_
    refine Ob.mk ⟨⟨by decide, by omega, by omega, Int.le_refl _⟩, fun _ _ => rfl⟩ ?_
    have hq : ((ptsOf p).drop (0 : Int).toNat).take ((((ptsOf p).length : Int) - 1) - 0).toNat = (ptsOf p).dropLast := by
      rw [show (0 : Int).toNat = 0 from rfl, List.drop_zero, List.dropLast_eq_take]; congr 1; omega
    have hql : (ptsOf p).dropLast.length ≤ 2 := by rw [List.length_dropLast]; omega
    rw [hq]
    refine CallV.fresh _ _ (c_clone _ (by omega)) rfl (fun _ _ => rfl) (.inl rfl) ?_
    refine CallV.hand 1 _ _ _ rfl (c_rev _ hql) (fun _ _ => rfl) (fun _ _ => rfl) rfl rfl ?_
    refine Dr.dyn (Ob.mk (by decide +kernel) ?_)
    refine Ob.mk ⟨by omega, by simp only [List.length_cons]; omega⟩ ?_
    intro p1 hp1
    have hp1 : (m :: mid)[i + 1]? = some p1 := hp1
    rw [hp] at hp1; cases hp1
    refine Ar.fit (by omega) ?_
    refine Ob.mk ⟨by omega, by simp only [List.length_cons]; omega⟩ ?_
    intro y1 hy1
    have hy1 : (m :: mid)[i]? = some y1 := by rw [← hy1]; congr 1; omega
    rw [hy] at hy1; cases hy1
    refine CallV.to _ (c_end y (verb_nm hyv).1) rfl ?_
    refine ⟨Pt, ptE, [endP y], rfl, Ob.mk ⟨rfl, by decide, by decide, by decide, fun x _ => ⟨rfl, rfl, rfl⟩⟩ ?_⟩
    refine ⟨[endP y], rfl, Ob.mk ⟨(by show _ * (16 : Int) ≤ _; simp only [List.length_cons, List.length_nil, List.length_reverse]; omega), (by simp only [List.length_cons, List.length_nil, List.length_reverse]; omega), by decide, fun _ _ => rfl⟩ ?_⟩
    refine CallV.to _ (c_with p.v _) rfl ?_
    have hws := back_with hpv rfl (endP y)
    refine ⟨Sg, sgE, [withS p.v ((ptsOf p).dropLast.reverse ++ [endP y])], rfl, Ob.mk ⟨rfl, by decide, by decide, by decide, fun x _ => ⟨rfl, rfl, rfl⟩⟩ ?_⟩
    refine ⟨[withS p.v ((ptsOf p).dropLast.reverse ++ [endP y])], rfl, Ob.mk ⟨(by show _ * (56 : Int) ≤ _; simp only [List.length_cons, List.length_nil, backs_len]; omega), (by simp only [List.length_cons, List.length_nil, backs_len]; omega), by decide, fun _ _ => rfl⟩ ?_⟩
    refine Ob.mk (by kernel_rfl) ?_
    refine Ar.fit (by omega) ?_
    exact ⟨(i, y), hy, sub_of [(0, some 5)] rfl rfl rfl ⟨congrArg (fun n => some (i64 n)) (show ((i + 1 : Nat) : Int) - 1 = (i : Int) by omega), rfl, rfl, rfl, rfl, trivial⟩ ⟨congrArg (fun r => some (Mem.arr 62 sgE 7 r)) (show (⟨1, endP z, zp, zp⟩ :: backs p ((m :: mid).drop (i + 1 + 1))) ++ _ = ⟨1, endP z, zp, zp⟩ :: backs y ((m :: mid).drop (i + 1)) by rw [step, hws]; rfl), trivial⟩, by show i < i + 1; omega⟩
  · have h1 : ¬ (0 : Int) < j := h1
    have h0 : j = 0 := by omega
    subst h0
    have hpm : p = m := by simpa using hp.symm
    subst hpm
    subst hzl
    refine ⟨Sg, sgE, [closeS], rfl, Ob.mk ⟨rfl, by decide, by decide, by decide, fun x _ => ⟨rfl, rfl, rfl⟩⟩ ?_⟩
    refine ⟨[closeS], rfl, Ob.mk ⟨(by show _ * (56 : Int) ≤ _; simp only [List.length_cons, List.length_nil, backs_len]; omega), (by simp only [List.length_cons, List.length_nil, backs_len]; omega), by decide, fun _ _ => rfl⟩ ?_⟩
    exact ⟨some 2, .own _ rfl, rfl, fun _ _ => rfl⟩

set_option maxRecDepth 100000 in
theorem c_turnO' (m : Sg) (mid : List Sg) (hm : m.v = 1) (hmid : ∀ s ∈ mid, s.v = 2 ∨ s.v = 3 ∨ s.v = 4) (hlen : (m :: mid).length ≤ 256) :
    CallsG Try.prog 50 [.sl sgE (m :: mid)] [] (.own 0) [(0, .arr 62 sgE 7 (turnB (m :: mid)))] := by
  refine calls_own tok mix Try.func50 rfl rfl rfl ?_
  have hlen : mid.length + 1 ≤ 256 := by simpa using hlen
  have hb : ∀ s ∈ m :: mid, s.v = 1 ∨ s.v = 2 ∨ s.v = 3 ∨ s.v = 4 := fun s hs => by
    rcases List.mem_cons.1 hs with rfl | hs
    · exact .inl hm
    · exact .inr (hmid s hs)
  have hL : ((m :: mid).length : Int) = mid.length + 1 := by simp only [List.length_cons]; omega
  intro _
  refine Ar.fit (by omega) ?_
  refine Ob.mk ⟨by omega, by omega⟩ ?_
  intro x hx
  have hxl := last_of hx (by simp only [List.length_cons]; omega)
  have hxb := hb x (List.mem_of_getElem? hx)
  refine Br.mk (fun h => absurd h (verb_nm hxb).2) (fun hn5 => ?_)
  refine Ar.fit (by omega) ?_
  refine Ob.mk ⟨by omega, by omega⟩ ?_
  intro z hz
  have hzl := last_of hz (by simp only [List.length_cons]; omega)
  have hzb := hb z (List.mem_of_getElem? hz)
  refine CallV.to _ (c_end' z (verb_nm hzb).1) rfl ?_
  refine ⟨Sg, sgE, [⟨1, endP z, zp, zp⟩], rfl, Ob.mk ⟨rfl, by decide, by decide, by decide, fun x _ => ⟨rfl, rfl, rfl⟩⟩ ?_⟩
  refine Ar.fit (by omega) ?_
  refine ⟨Nat × Sg, fun q => ⟨[(6, i64 q.1), (5, .own 0), (4, bl false), (0, .sl sgE (m :: mid))], [(0, .arr 62 sgE 7 (⟨1, endP z, zp, zp⟩ :: backs q.2 ((m :: mid).drop (q.1 + 1))))], 1, 53, 0⟩,
    fun q => (m :: mid)[q.1]? = some q.2, fun q => q.1, (mid.length, z), ?_, ?_, ?_⟩
  · show (m :: mid)[mid.length]? = some z
    rw [← hz]; congr 1; simp only [List.length_cons]; omega
  · exact (sub_put (t := 4) rfl (LE_no (verb_nm hxb).2)).trans (sub_of [(0, some 0)] rfl rfl rfl ⟨congrArg (fun n => some (i64 n)) (by omega), rfl, rfl, rfl, trivial⟩ ⟨congrArg (fun r => some (Mem.arr 62 sgE 7 r)) (by rw [List.drop_eq_nil_of_le (by simp)]; rfl), trivial⟩)
  rintro ⟨j, p⟩ hp
  have hp : (m :: mid)[j]? = some p := hp
  have hj : j < mid.length + 1 := by have := (List.getElem?_eq_some_iff.1 hp).1; simpa using this
  have hdl : ((m :: mid).drop (j + 1)).length ≤ 256 := by simp; omega
  refine Br.mk (fun h1 => ?_) (fun h1 => ?_)
  · have h1 : (0 : Int) < j := h1
    obtain ⟨i, rfl⟩ : ∃ i, j = i + 1 := ⟨j - 1, by omega⟩
    have hpm : p ∈ mid := List.mem_of_getElem? (i := i) (by simpa using hp)
    have hpv := hmid p hpm
    have hy := List.getElem?_eq_getElem (show i < (m :: mid).length by simp; omega)
    generalize (m :: mid)[i]'(by simp; omega) = y at hy
    have hyv := hb y (List.mem_of_getElem? hy)
    have step : backs y ((m :: mid).drop (i + 1)) = backs p ((m :: mid).drop (i + 1 + 1)) ++ [backS p (endP y)] := by rw [drop_at hp]; rfl
    refine Dr.mk (by decide +kernel) ?_
    refine Ob.mk ⟨by omega, by omega⟩ ?_
    intro p1 hp1
    have hp1 : (m :: mid)[i + 1]? = some p1 := hp1
    rw [hp] at hp1; cases hp1
    refine Ar.fit (by omega) ?_
    refine Ob.mk ⟨by omega, by omega⟩ ?_
    intro y1 hy1
    have hy1 : (m :: mid)[i]? = some y1 := by rw [← hy1]; congr 1; omega
    rw [hy] at hy1; cases hy1
    refine CallV.to _ (c_end' y (verb_nm hyv).1) rfl ?_
    refine CallV.to _ (c_back p (endP y)) rfl ?_
    refine ⟨Sg, sgE, [backS p (endP y)], rfl, Ob.mk ⟨rfl, by decide, by decide, by decide, fun x _ => ⟨rfl, rfl, rfl⟩⟩ ?_⟩
    refine ⟨[backS p (endP y)], rfl, Ob.mk ⟨(by show _ * (56 : Int) ≤ _; simp only [List.length_cons, List.length_nil, backs_len]; omega), (by simp only [List.length_cons, List.length_nil, backs_len]; omega), by decide, fun _ _ => rfl⟩ ?_⟩
    refine Ar.fit (by omega) ?_
    exact ⟨(i, y), hy, sub_of [(0, some 2)] rfl rfl rfl ⟨congrArg (fun n => some (i64 n)) (show ((i + 1 : Nat) : Int) - 1 = (i : Int) by omega), rfl, rfl, rfl, trivial⟩ ⟨congrArg (fun r => some (Mem.arr 62 sgE 7 r)) (show (⟨1, endP z, zp, zp⟩ :: backs p ((m :: mid).drop (i + 1 + 1))) ++ _ = ⟨1, endP z, zp, zp⟩ :: backs y ((m :: mid).drop (i + 1)) by rw [step]; rfl), trivial⟩, by show i < i + 1; omega⟩
  · have h1 : ¬ (0 : Int) < j := h1
    have h0 : j = 0 := by omega
    subst h0
    have hpm : p = m := by simpa using hp.symm
    subst hpm
    subst hzl
    exact ⟨some 0, .own _ rfl, rfl, fun _ _ => rfl⟩

set_option maxRecDepth 100000 in
theorem c_turnC' (m : Sg) (mid : List Sg) (c : Sg) (hc : c.v = 5) (hm : m.v = 1) (hmid : ∀ s ∈ mid, s.v = 2 ∨ s.v = 3 ∨ s.v = 4) (hlen : (m :: mid).length ≤ 256) :
    CallsG Try.prog 50 [.sl sgE ((m :: mid) ++ [c])] [] (.own 0) [(0, .arr 62 sgE 7 (turnB (m :: mid) ++ [closeS]))] := by
  refine calls_own tok mix Try.func50 rfl rfl rfl ?_
  have hlen : mid.length + 1 ≤ 256 := by simpa using hlen
  have hb : ∀ s ∈ m :: mid, s.v = 1 ∨ s.v = 2 ∨ s.v = 3 ∨ s.v = 4 := fun s hs => by
    rcases List.mem_cons.1 hs with rfl | hs
    · exact .inl hm
    · exact .inr (hmid s hs)
  have hL : (((m :: mid) ++ [c]).length : Int) = mid.length + 2 := by simp only [List.length_append, List.length_cons, List.length_nil]; omega
  intro _
  refine Ar.fit (by omega) ?_
  refine Ob.mk ⟨by omega, by omega⟩ ?_
  intro x hx
  have hxc : x = c := by
    have hn : ((((m :: mid) ++ [c]).length : Int) - 1).toNat = (m :: mid).length := by simp only [List.length_append, List.length_cons, List.length_nil]; omega
    exact last_at hx hn
  subst hxc
  refine Br.mk (fun _ => ?_) (fun h => absurd hc h)
  refine Ar.fit (by omega) ?_
  refine Ar.fit (by omega) ?_
  refine Ob.mk ⟨by omega, by omega⟩ ?_
  intro z hz
  have hz : (m :: mid)[mid.length]? = some z := by
    have hn : ((((m :: mid) ++ [x]).length : Int) - 1 - 1).toNat = mid.length := by omega
    rw [hn, List.getElem?_append_left (by simp)] at hz; exact hz
  have hzl := last_of hz rfl
  have hzb := hb z (List.mem_of_getElem? hz)
  refine CallV.to _ (c_end' z (verb_nm hzb).1) rfl ?_
  refine ⟨Sg, sgE, [⟨1, endP z, zp, zp⟩], rfl, Ob.mk ⟨rfl, by decide, by decide, by decide, fun x _ => ⟨rfl, rfl, rfl⟩⟩ ?_⟩
  refine Ar.fit (by omega) ?_
  refine ⟨Nat × Sg, fun q => ⟨[(6, i64 q.1), (5, .own 0), (4, bl true), (0, .sl sgE ((m :: mid) ++ [x]))], [(0, .arr 62 sgE 7 (⟨1, endP z, zp, zp⟩ :: backs q.2 ((m :: mid).drop (q.1 + 1))))], 1, 53, 0⟩,
    fun q => (m :: mid)[q.1]? = some q.2, fun q => q.1, (mid.length, z), ?_, ?_, ?_⟩
  · exact hz
  · exact (sub_put (t := 4) rfl (LE_yes hc)).trans (sub_of [(0, some 0)] rfl rfl rfl ⟨congrArg (fun n => some (i64 n)) (by omega), rfl, rfl, rfl, trivial⟩ ⟨congrArg (fun r => some (Mem.arr 62 sgE 7 r)) (by rw [List.drop_eq_nil_of_le (by simp)]; rfl), trivial⟩)
  rintro ⟨j, p⟩ hp
  have hp : (m :: mid)[j]? = some p := hp
  have hj : j < mid.length + 1 := by have := (List.getElem?_eq_some_iff.1 hp).1; simpa using this
  have hdl : ((m :: mid).drop (j + 1)).length ≤ 256 := by simp; omega
  refine Br.mk (fun h1 => ?_) (fun h1 => ?_)
  · have h1 : (0 : Int) < j := h1
    obtain ⟨i, rfl⟩ : ∃ i, j = i + 1 := ⟨j - 1, by omega⟩
    have hpm : p ∈ mid := List.mem_of_getElem? (i := i) (by simpa using hp)
    have hpv := hmid p hpm
    have hy := List.getElem?_eq_getElem (show i < (m :: mid).length by simp; omega)
    generalize (m :: mid)[i]'(by simp; omega) = y at hy
    have hyv := hb y (List.mem_of_getElem? hy)
    have step : backs y ((m :: mid).drop (i + 1)) = backs p ((m :: mid).drop (i + 1 + 1)) ++ [backS p (endP y)] := by rw [drop_at hp]; rfl
    refine Dr.mk (by decide +kernel) ?_
    refine Ob.mk ⟨by omega, by omega⟩ ?_
    intro p1 hp1
    have hp1 : (m :: mid)[i + 1]? = some p1 := by
      have hp1 : ((m :: mid) ++ [x])[i + 1]? = some p1 := hp1
      rwa [List.getElem?_append_left (by simp; omega)] at hp1
    rw [hp] at hp1; cases hp1
    refine Ar.fit (by omega) ?_
    refine Ob.mk ⟨by omega, by omega⟩ ?_
    intro y1 hy1
    have hy1 : (m :: mid)[i]? = some y1 := by
      have hn : (((i + 1 : Nat) : Int) - 1).toNat = i := by omega
      rw [hn, List.getElem?_append_left (by simp; omega)] at hy1; exact hy1
    rw [hy] at hy1; cases hy1
    refine CallV.to _ (c_end' y (verb_nm hyv).1) rfl ?_
    refine CallV.to _ (c_back p (endP y)) rfl ?_
    refine ⟨Sg, sgE, [backS p (endP y)], rfl, Ob.mk ⟨rfl, by decide, by decide, by decide, fun x _ => ⟨rfl, rfl, rfl⟩⟩ ?_⟩
    refine ⟨[backS p (endP y)], rfl, Ob.mk ⟨(by show _ * (56 : Int) ≤ _; simp only [List.length_cons, List.length_nil, backs_len]; omega), (by simp only [List.length_cons, List.length_nil, backs_len]; omega), by decide, fun _ _ => rfl⟩ ?_⟩
    refine Ar.fit (by omega) ?_
    exact ⟨(i, y), hy, sub_of [(0, some 2)] rfl rfl rfl ⟨congrArg (fun n => some (i64 n)) (show ((i + 1 : Nat) : Int) - 1 = (i : Int) by omega), rfl, rfl, rfl, trivial⟩ ⟨congrArg (fun r => some (Mem.arr 62 sgE 7 r)) (show (⟨1, endP z, zp, zp⟩ :: backs p ((m :: mid).drop (i + 1 + 1))) ++ _ = ⟨1, endP z, zp, zp⟩ :: backs y ((m :: mid).drop (i + 1)) by rw [step]; rfl), trivial⟩, by show i < i + 1; omega⟩
  · have h1 : ¬ (0 : Int) < j := h1
    have h0 : j = 0 := by omega
    subst h0
    have hpm : p = m := by simpa using hp.symm
    subst hpm
    subst hzl
    refine ⟨Sg, sgE, [closeS], rfl, Ob.mk ⟨rfl, by decide, by decide, by decide, fun x _ => ⟨rfl, rfl, rfl⟩⟩ ?_⟩
    refine ⟨[closeS], rfl, Ob.mk ⟨(by show _ * (56 : Int) ≤ _; simp only [List.length_cons, List.length_nil, backs_len]; omega), (by simp only [List.length_cons, List.length_nil, backs_len]; omega), by decide, fun _ _ => rfl⟩ ?_⟩
    exact ⟨some 2, .own _ rfl, rfl, fun _ _ => rfl⟩

end Go.Gs
