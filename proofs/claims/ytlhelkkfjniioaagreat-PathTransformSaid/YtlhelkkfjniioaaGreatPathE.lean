/- A path under a transform, the other text's; the law. -/
import Derived.Test.YtlhelkkfjniioaaGreatPathD
import Derived.Test.YtlhelkkfjniioaaGreatPathC
import Derived.Test.YtlhelkkfjniioaaGreatNumR
namespace Go.Gs
open Go.Proofs

set_option maxRecDepth 100000 in
set_option maxHeartbeats 4000000 in
theorem r12_apply (t : AF) (p : Pt) (ht : t.le 100000) : CallsG Tryz.prog 22 [.agg (afE t), .agg (ptE p)] [] (.tup [.agg (ptE (appl t p).1), i64 (appl t p).2]) [] := by
  obtain ⟨ha, hb, hc, hd, he, hf⟩ := ht
  refine calls_to tok mix Tryz.func22 rfl rfl rfl ?_
  have fin : ∀ (q : Pt) (n : Int), (appl t p) = (q, n) → LE (.tup [.agg (ptE q), i64 n]) (.tup [.agg (ptE (appl t p).1), i64 (appl t p).2]) := fun q n h => by rw [h]; exact .refl
  refine CallV.to _ (r12_valid t ⟨by omega, by omega, by omega, by omega, by omega, by omega⟩) rfl ?_
  refine Br.mk (fun h1 => ?_) (fun h1 => ?_)
  · exact fin zp 5 (by rw [appl, if_pos h1])
  refine CallV.to _ (c_pvalid' p) rfl ?_
  refine Br.mk (fun h2 => ?_) (fun h2 => ?_)
  · exact fin zp 6 (by rw [appl, if_neg h1, if_pos h2])
  have hp : ptOK p := Classical.byContradiction h2
  have hx : R64 p.x := by unfold R64; unfold ptOK at hp; omega
  have hy : R64 p.y := by unfold R64; unfold ptOK at hp; omega
  have lx := qlen_int p.x
  have ly := qlen_int p.y
  have zx := zlen_i64 hx
  have zy := zlen_i64 hy
  refine Dr.mk (by decide +kernel) ?_
  refine CallV.to _ (r3_fromInt p.x hx) rfl ?_
  refine CallV.to _ (r3_fromInt p.y hy) rfl ?_
  refine CallV.to _ (r12_exact t (ofQ (p.x : Rat)) (ofQ (p.y : Rat)) ⟨by omega, by omega, by omega, by omega, by omega, by omega⟩ (by rw [ofQ_len]; omega) (by rw [ofQ_len]; omega)) rfl ?_
  rw [ofQ_v, ofQ_v]
  have lX := qlen_twos t.a (ofQ (p.x : Rat)) t.c (ofQ (p.y : Rat)) t.e (n := 100000) ha (by rw [ofQ_len]; omega) hc (by rw [ofQ_len]; omega) he
  have lY := qlen_twos t.b (ofQ (p.x : Rat)) t.d (ofQ (p.y : Rat)) t.f (n := 100000) hb (by rw [ofQ_len]; omega) hd (by rw [ofQ_len]; omega) hf
  rw [ofQ_v, ofQ_v] at lX lY
  have lh : qlen (Rat.divInt 1 2) ≤ 1 := by decide +kernel
  have mX := qlen_add (applX t p.x p.y) (Rat.divInt 1 2)
  have mY := qlen_add (applY t p.x p.y) (Rat.divInt 1 2)
  have lX2 : qlen (applX t p.x p.y) ≤ 500007 := lX.2
  have lY2 : qlen (applY t p.x p.y) ≤ 500007 := lY.2
  have fl : ∀ q : Rat, zlen q.floor ≤ qlen q := fun q => Nat.le_trans (zlen_mono (by
    rw [Rat.floor_def]
    exact Int.natAbs_ediv_le_natAbs _ _)) (qlen_num q)
  have fX := fl (applX t p.x p.y + Rat.divInt 1 2)
  have fY := fl (applY t p.x p.y + Rat.divInt 1 2)
  refine CallV.to _ (r3_fromints 1 2 (by decide) (by decide) (by decide)) rfl ?_
  refine CallV.to _ (r3_add (ofQ (applX t p.x p.y)) (ofQ (Rat.divInt 1 2)) (by rw [ofQ_len]; omega) (by rw [ofQ_len]; omega)) rfl ?_
  rw [ofQ_v, ofQ_v]
  refine CallV.to _ (r3_floor (ofQ (applX t p.x p.y + Rat.divInt 1 2)) (by rw [ofQ_len]; omega)) rfl ?_
  rw [ofQ_v]
  refine CallV.to _ (r2_toint (ofZ (applX t p.x p.y + Rat.divInt 1 2).floor) (by rw [ofZ_len]; omega)) rfl ?_
  refine CallV.to _ (r3_add (ofQ (applY t p.x p.y)) (ofQ (Rat.divInt 1 2)) (by rw [ofQ_len]; omega) (by rw [ofQ_len]; omega)) rfl ?_
  rw [ofQ_v, ofQ_v]
  refine CallV.to _ (r3_floor (ofQ (applY t p.x p.y + Rat.divInt 1 2)) (by rw [ofQ_len]; omega)) rfl ?_
  rw [ofQ_v]
  refine CallV.to _ (r2_toint (ofZ (applY t p.x p.y + Rat.divInt 1 2).floor) (by rw [ofZ_len]; omega)) rfl ?_
  rw [ofZ_v, ofZ_v]
  obtain ⟨X, hX⟩ : ∃ X, (applX t p.x p.y + Rat.divInt 1 2).floor = X := ⟨_, rfl⟩
  obtain ⟨Y, hY⟩ : ∃ Y, (applY t p.x p.y + Rat.divInt 1 2).floor = Y := ⟨_, rfl⟩
  have hg : goP t p = ⟨X, Y⟩ := by unfold goP; rw [hX, hY]
  rw [hX, hY]
  have out : ¬ ptOK ⟨X, Y⟩ → appl t p = (zp, 6) := fun h => by rw [appl, if_neg h1, if_neg h2, if_neg (by rw [hg]; exact h)]
  have inn : ptOK ⟨X, Y⟩ → appl t p = (⟨X, Y⟩, 0) := fun h => by rw [appl, if_neg h1, if_neg h2, if_pos (by rw [hg]; exact h), hg]
  have big : ptOK ⟨X, Y⟩ → (-9223372036854775808 ≤ X ∧ X ≤ 9223372036854775807) ∧ (-9223372036854775808 ≤ Y ∧ Y ≤ 9223372036854775807) := fun h => by unfold ptOK at h; dsimp only at h; omega
  refine Br.mk (fun h3 => ?_) (fun h3 => ?_)
  · exact fin zp 6 (out fun h => h3 (big h).1)
  have h3 := Classical.byContradiction h3
  refine Br.mk (fun h4 => ?_) (fun h4 => ?_)
  · exact fin zp 6 (out fun h => h4 (big h).2)
  have h4 := Classical.byContradiction h4
  refine CallV.to _ (c_pvalid' ⟨fitI X, fitI Y⟩) rfl ?_
  rw [fitI, if_pos h3, fitI, if_pos h4]
  refine Br.mk (fun h5 => ?_) (fun h5 => ?_)
  · exact fin zp 6 (out h5)
  · exact fin ⟨X, Y⟩ 0 (inn (Classical.byContradiction h5))

theorem goSg_flip (t : AF) {s : Sg} (hf : fits s) : goSg t s = flipS (fun p => (appl t p).1) s := by
  unfold goSg
  obtain ⟨f1, f2, f3⟩ := hf
  have hr := nm_range s.v
  have k : nm s.v ≤ 0 ∨ nm s.v = 1 ∨ nm s.v = 2 ∨ nm s.v = 3 := by omega
  unfold ptsOf flipS withS part
  rcases k with k | k | k | k
  · rw [show (nm s.v).toNat = 0 by omega, f1.2 (by omega), f2.2 (by omega), f3.2 (by omega)]; rfl
  · rw [show (nm s.v).toNat = 1 by omega, f2.2 (by omega), f3.2 (by omega)]; rfl
  · rw [show (nm s.v).toNat = 2 by omega, f3.2 (by omega)]; rfl
  · rw [show (nm s.v).toNat = 3 by omega]; rfl

theorem trans_err {l : List Sg} {t : AF} (h1 : valid l) {i : Nat} {x : Sg} {p : Pt} {k : Nat} (h0 : ptErr t (allPts (l.take i)) = 0) (hx : l[i]? = some x) (hk : ptErr t ((ptsOf x).take k) = 0) (hp : (ptsOf x)[k]? = some p) (he : (appl t p).2 ≠ 0) : trans t l = ([], (appl t p).2) := by
  have e2 := (ptErr_at hk hp).2 he
  have e3 : ptErr t (allPts l) = (appl t p).2 := by
    have hd := drop_at hx
    have : allPts l = allPts (l.take i) ++ (ptsOf x ++ allPts (l.drop (i + 1))) := by
      conv => lhs; rw [← List.take_append_drop i l, hd]
      simp [allPts]
    rw [this, ptErr_append, h0]
    simp only [ne_eq, not_true_eq_false, if_false]
    rw [ptErr_append, e2, if_pos he]
  rw [trans, if_neg (fun k => k h1), e3, if_pos he]
theorem trans_fin {l : List Sg} {t : AF} {i : Nat} {x : Sg} (h0 : ptErr t (allPts (l.take i)) = 0) (hx : l[i]? = some x) (hk : ptErr t (ptsOf x) = 0) : ptErr t (allPts (l.take (i + 1))) = 0 := by
  rw [allPts_take hx, ptErr_append, h0]; simpa using hk

set_option maxRecDepth 100000 in
set_option maxHeartbeats 4000000 in
theorem c_trans' (l : List Sg) (t : AF) (ht : t.le 100000) : CallsG Tryz.prog 8 [.sl sgE l, .agg (afE t)] [] (.tup [.sl sgE (trans t l).1, i64 (trans t l).2]) [] := by
  refine calls_to tok mix Tryz.func8 rfl rfl rfl ?_
  have bad : ∀ e : Int, trans t l = ([], e) → LE (.tup [.val (.slice none 0 0), i64 e]) (.tup [.sl sgE (trans t l).1, i64 (trans t l).2]) := fun e h => by
    rw [h]; exact LE_tup2 LE_nil0 .refl
  refine CallV.to _ (c_valid' l) rfl ?_
  refine Br.mk (fun h1 => ?_) (fun h1 => ?_)
  · exact bad 10 (by rw [trans, if_pos h1])
  have h := Decidable.not_not.1 h1
  have hvl := valid_len h
  refine ⟨Sg, sgE, [], rfl, Ob.mk ⟨rfl, by decide, by decide, by decide, fun x hx => by cases hx⟩ ?_⟩
  refine ⟨Nat, fun i => ⟨[(7, i64 i), (6, .own 1), (3, .loc 0 0), (0, .sl sgE l)], [(1, .arr 44 sgE 7 ((l.take i).map (goSg t))), (0, .box 29 (afE t))], 2, 67, 0⟩, fun i => i ≤ l.length ∧ ptErr t (allPts (l.take i)) = 0, fun i => l.length - i, 0, ⟨Nat.zero_le _, rfl⟩,
    sub_of [(0, some 0), (1, some 1)] rfl rfl rfl ⟨rfl, rfl, rfl, rfl, trivial⟩ ⟨rfl, rfl, trivial⟩, ?_⟩
  rintro i ⟨hil0, hi0⟩
  intro _
  refine Br.mk (fun g1 => ?_) (fun g1 => ?_)
  · have g1 : (i : Int) < l.length := g1
    have hx := List.getElem?_eq_getElem (show i < l.length by omega)
    generalize l[i]'(by omega) = x at hx
    have hf := seg_fits h (List.mem_of_getElem? hx)
    have hnr := nm_range x.v
    refine Ob.mk ⟨by omega, g1⟩ ?_
    intro y hy
    have hy : l[i]? = some y := hy
    rw [hx] at hy; cases hy
    refine CallV.to _ (c_three x) rfl ?_
    have hml : ((l.take i).map (goSg t)).length ≤ 256 := by simp; omega
    refine ⟨Nat, fun k => ⟨[(9, i64 k), (8, .loc 2 0), (7, i64 i), (6, .own 1), (3, .loc 0 0), (0, .sl sgE l)], [(2, .box 55 (ptE (part (fun p => (appl t p).1) k x).a ++ ptE (part (fun p => (appl t p).1) k x).b ++ ptE (part (fun p => (appl t p).1) k x).c)), (1, .arr 44 sgE 7 ((l.take i).map (goSg t))), (0, .box 29 (afE t))], 3, 67, 0⟩,
      fun k => k ≤ (nm x.v).toNat ∧ ptErr t ((ptsOf x).take k) = 0, fun k => 3 - k, 0, ⟨Nat.zero_le _, rfl⟩, sub_of [(0, some 0), (1, some 1), (2, some 2)] rfl rfl rfl ⟨rfl, rfl, rfl, rfl, rfl, rfl, trivial⟩ ⟨rfl, rfl, rfl, trivial⟩, ?_⟩
    rintro k ⟨hk0, hke⟩
    refine Ob.mk ⟨by omega, g1⟩ ?_
    intro y hy
    have hy : l[i]? = some y := hy
    rw [hx] at hy; cases hy
    refine CallV.to _ (c_named' x.v) rfl ?_
    refine Br.mk (fun g2 => ?_) (fun g2 => ?_)
    · have g2 : (k : Int) < nm x.v := g2
      have hat := pts_at (s := x) g2
      have e : k = 0 ∨ k = 1 ∨ k = 2 := by omega
      rcases e with rfl | rfl | rfl
      · refine Dr.mk (by decide +kernel) ?_
        refine CallV.to _ (r12_apply t x.a ht) rfl ?_
        refine Br.mk (fun h5 => bad _ (trans_err h hi0 hx hke hat h5)) (fun h5 => ?_)
        have h5 : (appl t x.a).2 = 0 := Classical.byContradiction h5
        refine Ar.fit (by decide) ?_
        exact ⟨1, ⟨by show 1 ≤ _; omega, (ptErr_at hke hat).1 h5⟩, sub_of [(0, some 0), (1, some 1), (2, some 2)] rfl rfl rfl ⟨rfl, rfl, rfl, rfl, rfl, rfl, trivial⟩ ⟨rfl, rfl, rfl, trivial⟩, by decide⟩
      · refine Dr.mk (by decide +kernel) ?_
        refine CallV.to _ (r12_apply t x.b ht) rfl ?_
        refine Br.mk (fun h5 => bad _ (trans_err h hi0 hx hke hat h5)) (fun h5 => ?_)
        have h5 : (appl t x.b).2 = 0 := Classical.byContradiction h5
        refine Ar.fit (by decide) ?_
        exact ⟨2, ⟨by show 2 ≤ _; omega, (ptErr_at hke hat).1 h5⟩, sub_of [(0, some 0), (1, some 1), (2, some 2)] rfl rfl rfl ⟨rfl, rfl, rfl, rfl, rfl, rfl, trivial⟩ ⟨rfl, rfl, rfl, trivial⟩, by decide⟩
      · refine Dr.mk (by decide +kernel) ?_
        refine CallV.to _ (r12_apply t x.c ht) rfl ?_
        refine Br.mk (fun h5 => bad _ (trans_err h hi0 hx hke hat h5)) (fun h5 => ?_)
        have h5 : (appl t x.c).2 = 0 := Classical.byContradiction h5
        refine Ar.fit (by decide) ?_
        exact ⟨3, ⟨by show 3 ≤ _; omega, (ptErr_at hke hat).1 h5⟩, sub_of [(0, some 0), (1, some 1), (2, some 2)] rfl rfl rfl ⟨rfl, rfl, rfl, rfl, rfl, rfl, trivial⟩ ⟨rfl, rfl, rfl, trivial⟩, by decide⟩
    · have g2 : ¬ (k : Int) < nm x.v := g2
      have hku : k = (nm x.v).toNat := by omega
      have hall : (ptsOf x).take k = ptsOf x := by
        rw [List.take_of_length_le]
        unfold ptsOf; simp; omega
      rw [hall] at hke
      refine Dr.mk (by decide +kernel) ?_
      refine Ob.mk ⟨by omega, g1⟩ ?_
      intro y hy
      have hy : l[i]? = some y := hy
      rw [hx] at hy; cases hy
      refine ⟨Sg, sgE, [part (fun p => (appl t p).1) k x], rfl, Ob.mk ⟨rfl, by decide, by decide, by decide, fun x _ => ⟨rfl, rfl, rfl⟩⟩ ?_⟩
      refine ⟨[part (fun p => (appl t p).1) k x], rfl, Ob.mk ⟨(by show _ * (56 : Int) ≤ _; simp only [List.length_cons, List.length_nil]; omega), (by simp only [List.length_cons, List.length_nil]; omega), by decide, fun _ _ => rfl⟩ ?_⟩
      refine Ar.fit (by omega) ?_
      exact ⟨i + 1, ⟨by show i + 1 ≤ _; omega, trans_fin hi0 hx hke⟩, sub_of [(0, some 0), (1, some 4)] rfl rfl rfl ⟨rfl, rfl, rfl, rfl, trivial⟩ ⟨congrArg (fun q => some (Mem.arr 44 sgE 7 q)) (by rw [List.take_add_one, hx, hku]; simp [goSg_flip t hf, flipS]), rfl, trivial⟩, by dsimp only; omega⟩
  · have hil : i = l.length := by omega
    rw [hil, List.take_length] at hi0
    have htr : trans t l = (l.map (goSg t), 0) := by rw [trans, if_neg h1, hi0, if_neg (fun k => k rfl)]
    rw [show (trans t l).1 = (l.take i).map (goSg t) by rw [htr, hil, List.take_length], show (trans t l).2 = 0 by rw [htr]]
    exact LE_tup2 .refl .refl

instance (t : AF) (n : Nat) : Decidable (t.le n) := inferInstanceAs (Decidable (_ ∧ _))
/-- No number of the transform has more digits. -/
theorem c_small (t : AF) : CallsG Tryz.prog 5 [.agg (afE t)] [] (pr (t.le 12)) [] := by
  refine calls_to tok mix Tryz.func5 rfl rfl rfl ?_
  refine ⟨BR, brE, coefs t, rfl, Ob.mk ⟨rfl, by decide, by decide, by decide, fun x _ => ⟨rfl, rfl, rfl⟩⟩ ?_⟩
  have le_iff : t.le 12 ↔ ∀ i, i < 6 → (t.nth i).len ≤ 12 := ⟨fun h i _ => coefs_le h i, fun h => ⟨h 0 (by decide), h 1 (by decide), h 2 (by decide), h 3 (by decide), h 4 (by decide), h 5 (by decide)⟩⟩
  refine ⟨Nat, fun i => ⟨[(4, i64 i), (3, .own 1)], [(1, .arr 27 brE 4 (coefs t))], 2, 42, 0⟩, fun i => i ≤ 6 ∧ ∀ j, j < i → (t.nth j).len ≤ 12, fun i => 6 - i, 0, ⟨Nat.zero_le _, fun j h => by omega⟩, ?_, ?_⟩
  · exact sub_of [(1, some 1)] rfl rfl rfl ⟨rfl, rfl, trivial⟩ ⟨rfl, trivial⟩
  rintro i ⟨h1, h2⟩
  intro hl
  have hl6 : (coefs t).length = 6 := rfl
  refine Br.mk (fun h3 => ?_) (fun h3 => ?_)
  · have h6 : i < 6 := by omega
    have no : ¬ (t.nth i).len ≤ 12 → ¬ t.le 12 := fun h k => h (le_iff.1 k i h6)
    refine Ob.mk ⟨by omega, by omega⟩ ?_
    refine Ob.mk ⟨by omega, by omega⟩ ?_
    intro x hx
    have hx : (coefs t)[i]? = some x := hx
    have hx := coefs_at hx
    subst hx
    intro hl1
    refine Br.mk (fun h4 => LE_false (no (by unfold BR.len; omega))) (fun h4 => ?_)
    refine Ob.mk ⟨by omega, by omega⟩ ?_
    refine Ob.mk ⟨by omega, by omega⟩ ?_
    intro x hx
    have hx : (coefs t)[i]? = some x := hx
    have hx := coefs_at hx
    subst hx
    intro hl2
    refine Br.mk (fun h5 => LE_false (no (by unfold BR.len; omega))) (fun h5 => ?_)
    refine Ar.fit (by omega) ?_
    refine ⟨i + 1, ⟨by omega, fun j hj => ?_⟩, sub_of [(1, some 1)] rfl rfl rfl ⟨rfl, rfl, trivial⟩ ⟨rfl, trivial⟩, by dsimp only; omega⟩
    by_cases e : j = i
    · subst e; unfold BR.len; omega
    · exact h2 j (by omega)
  · have : i = 6 := by omega
    subst this
    exact LE_true (le_iff.2 h2)

theorem AF.le.mono {t : AF} {n m : Nat} (h : t.le n) (k : n ≤ m) : t.le m := by
  obtain ⟨h1, h2, h3, h4, h5, h6⟩ := h
  exact ⟨by omega, by omega, by omega, by omega, by omega, by omega⟩

set_option maxRecDepth 100000 in
theorem c_lawTransform (l : List Sg) (t : AF) : CallsG Tryz.prog 3 [.sl sgE l, .agg (afE t)] [] (bl true) [] := by
  refine calls_to tok mix Tryz.func3 rfl rfl rfl ?_
  refine CallV.to _ (c_few l) rfl ?_
  refine Br.mk (fun _ => CallV.to _ c_example rfl .refl) (fun h1 => ?_)
  have h1 := Decidable.not_not.1 h1
  refine CallV.to _ (c_small t) rfl ?_
  refine Br.mk (fun _ => CallV.to _ c_example rfl .refl) (fun h2 => ?_)
  have h2 : t.le 100000 := (Decidable.not_not.1 h2).mono (by decide)
  refine CallV.to _ (c_trans l t h2 h1) rfl ?_
  refine CallV.to _ (c_trans' l t h2) rfl ?_
  refine CallV.to _ (c_equal' (trans t l).1 (trans t l).1) rfl ?_
  refine Br.mk (fun _ => ?_) (fun k => absurd rfl k)
  refine Br.mk (fun _ => ?_) (fun k => absurd rfl k)
  refine CallV.to _ c_example rfl ?_
  exact .refl

end Go.Gs
