/- A point under a transform, the program's. -/
import Derived.Test.YtlhelkkfjniioaaGreatPathA
import Derived.Test.YtlhelkkfjniioaaGreatNumD
import Derived.Test.YtlhelkkfjniioaaGreatPathB
namespace Go.Gs
open Go.Proofs

/-- Where a point goes. -/
def goP (t : AF) (p : Pt) : Pt := ⟨(applX t (p.x : Rat) (p.y : Rat) + Rat.divInt 1 2).floor, (applY t (p.x : Rat) (p.y : Rat) + Rat.divInt 1 2).floor⟩
/-- The point, or the error. -/
def appl (t : AF) (p : Pt) : Pt × Int := if ¬ t.ok then (zp, 5) else if ¬ ptOK p then (zp, 6) else if ptOK (goP t p) then (goP t p, 0) else (zp, 6)

set_option maxRecDepth 100000 in
set_option maxHeartbeats 4000000 in
theorem a_apply (t : AF) (p : Pt) (ht : t.le 100000) : CallsG Tryz.prog 17 [.agg (afE t), .agg (ptE p)] [] (.tup [.agg (ptE (appl t p).1), i64 (appl t p).2]) [] := by
  obtain ⟨ha, hb, hc, hd, he, hf⟩ := ht
  refine calls_to tok mix Tryz.func17 rfl rfl rfl ?_
  have fin : ∀ (q : Pt) (n : Int), (appl t p) = (q, n) → LE (.tup [.agg (ptE q), i64 n]) (.tup [.agg (ptE (appl t p).1), i64 (appl t p).2]) := fun q n h => by rw [h]; exact .refl
  refine CallV.to _ (a_valid t ⟨by omega, by omega, by omega, by omega, by omega, by omega⟩) rfl ?_
  refine Br.mk (fun h1 => ?_) (fun h1 => ?_)
  · exact fin zp 5 (by rw [appl, if_pos h1])
  refine CallV.to _ (c_vvalid p) rfl ?_
  refine Br.mk (fun h2 => ?_) (fun h2 => ?_)
  · exact fin zp 6 (by rw [appl, if_neg h1, if_pos h2])
  have hp : ptOK p := Classical.byContradiction h2
  have hx : R64 p.x := by unfold R64; unfold ptOK at hp; omega
  have hy : R64 p.y := by unfold R64; unfold ptOK at hp; omega
  have lx := qlen_int p.x
  have ly := qlen_int p.y
  have zx := zlen_i64 hx
  have zy := zlen_i64 hy
  refine Dr.mk (by decide +kernel) ?_
  refine CallV.to _ (q_fromint p.x hx) rfl ?_
  refine CallV.to _ (q_fromint p.y hy) rfl ?_
  refine CallV.to _ (a_exact t (ofQ (p.x : Rat)) (ofQ (p.y : Rat)) ⟨by omega, by omega, by omega, by omega, by omega, by omega⟩ (by rw [ofQ_len]; omega) (by rw [ofQ_len]; omega)) rfl ?_
  rw [ofQ_v, ofQ_v]
  have lX := qlen_twos t.a (ofQ (p.x : Rat)) t.c (ofQ (p.y : Rat)) t.e (n := 100000) ha (by rw [ofQ_len]; omega) hc (by rw [ofQ_len]; omega) he
  have lY := qlen_twos t.b (ofQ (p.x : Rat)) t.d (ofQ (p.y : Rat)) t.f (n := 100000) hb (by rw [ofQ_len]; omega) hd (by rw [ofQ_len]; omega) hf
  rw [ofQ_v, ofQ_v] at lX lY
  have lh : qlen (Rat.divInt 1 2) ≤ 1 := by decide +kernel
  have mX := qlen_add (applX t p.x p.y) (Rat.divInt 1 2)
  have mY := qlen_add (applY t p.x p.y) (Rat.divInt 1 2)
  have lX2 : qlen (applX t p.x p.y) ≤ 500007 := lX.2
  have lY2 : qlen (applY t p.x p.y) ≤ 500007 := lY.2
  have fl : ∀ q : Rat, zlen q.floor ≤ qlen q := fun q => Nat.le_trans (zlen_mono (by
    rw [Rat.floor_def]
    exact Int.natAbs_ediv_le_natAbs _ _)) (qlen_num q)
  have fX := fl (applX t p.x p.y + Rat.divInt 1 2)
  have fY := fl (applY t p.x p.y + Rat.divInt 1 2)
  refine CallV.to _ (q_fromints 1 2 (by decide) (by decide) (by decide)) rfl ?_
  refine CallV.to _ (q_add (ofQ (applX t p.x p.y)) (ofQ (Rat.divInt 1 2)) (by rw [ofQ_len]; omega) (by rw [ofQ_len]; omega)) rfl ?_
  rw [ofQ_v, ofQ_v]
  refine CallV.to _ (q_floor (ofQ (applX t p.x p.y + Rat.divInt 1 2)) (by rw [ofQ_len]; omega)) rfl ?_
  rw [ofQ_v]
  refine CallV.to _ (z_toint (ofZ (applX t p.x p.y + Rat.divInt 1 2).floor) (by rw [ofZ_len]; omega)) rfl ?_
  refine CallV.to _ (q_add (ofQ (applY t p.x p.y)) (ofQ (Rat.divInt 1 2)) (by rw [ofQ_len]; omega) (by rw [ofQ_len]; omega)) rfl ?_
  rw [ofQ_v, ofQ_v]
  refine CallV.to _ (q_floor (ofQ (applY t p.x p.y + Rat.divInt 1 2)) (by rw [ofQ_len]; omega)) rfl ?_
  rw [ofQ_v]
  refine CallV.to _ (z_toint (ofZ (applY t p.x p.y + Rat.divInt 1 2).floor) (by rw [ofZ_len]; omega)) rfl ?_
  rw [ofZ_v, ofZ_v]
  obtain ⟨X, hX⟩ : ∃ X, (applX t p.x p.y + Rat.divInt 1 2).floor = X := ⟨_, rfl⟩
  obtain ⟨Y, hY⟩ : ∃ Y, (applY t p.x p.y + Rat.divInt 1 2).floor = Y := ⟨_, rfl⟩
  have hg : goP t p = ⟨X, Y⟩ := by unfold goP; rw [hX, hY]
  rw [hX, hY]
  have out : ¬ ptOK ⟨X, Y⟩ → appl t p = (zp, 6) := fun h => by rw [appl, if_neg h1, if_neg h2, if_neg (by rw [hg]; exact h)]
  have inn : ptOK ⟨X, Y⟩ → appl t p = (⟨X, Y⟩, 0) := fun h => by rw [appl, if_neg h1, if_neg h2, if_pos (by rw [hg]; exact h), hg]
  have big : ptOK ⟨X, Y⟩ → (-9223372036854775808 ≤ X ∧ X ≤ 9223372036854775807) ∧ (-9223372036854775808 ≤ Y ∧ Y ≤ 9223372036854775807) := fun h => by unfold ptOK at h; dsimp only at h; omega
  refine Br.mk (fun h3 => ?_) (fun h3 => ?_)
  · refine Br.mk (fun h4 => ?_) (fun h4 => ?_)
    · refine CallV.to _ (c_vvalid ⟨fitI X, fitI Y⟩) rfl ?_
      rw [fitI, if_pos h3, fitI, if_pos h4]
      refine Br.mk (fun h5 => ?_) (fun h5 => ?_)
      · exact fin ⟨X, Y⟩ 0 (inn h5)
      · exact fin zp 6 (out h5)
    · exact fin zp 6 (out fun h => h4 (big h).2)
  · exact fin zp 6 (out fun h => h3 (big h).1)

end Go.Gs
/- A path under a transform, the program's. -/
namespace Go.Gs
open Go.Proofs

/-- The first error that the points meet. -/
def ptErr (t : AF) : List Pt → Int
  | [] => 0
  | p :: r => if (appl t p).2 ≠ 0 then (appl t p).2 else ptErr t r
def goSg (t : AF) (s : Sg) : Sg := withS s.v ((ptsOf s).map fun p => (appl t p).1)
def trans (t : AF) (l : List Sg) : List Sg × Int :=
  if ¬ valid l then ([], 10) else if ptErr t (allPts l) ≠ 0 then ([], ptErr t (allPts l)) else (l.map (goSg t), 0)
theorem ptErr_append (t : AF) : ∀ q r : List Pt, ptErr t (q ++ r) = if ptErr t q ≠ 0 then ptErr t q else ptErr t r
  | [], r => by simp [ptErr]
  | p :: q, r => by
    rw [List.cons_append, ptErr, ptErr, ptErr_append t q r]
    by_cases h : (appl t p).2 = 0
    · simp [h]
    · simp [h]
theorem ptErr_at {t : AF} {q : List Pt} {k : Nat} {p : Pt} (h0 : ptErr t (q.take k) = 0) (hp : q[k]? = some p) :
    ((appl t p).2 = 0 → ptErr t (q.take (k + 1)) = 0) ∧ ((appl t p).2 ≠ 0 → ptErr t q = (appl t p).2) := by
  have e : q.take (k + 1) = q.take k ++ [p] := by rw [List.take_add_one, hp]; rfl
  have e1 : ptErr t (q.take (k + 1)) = (appl t p).2 := by
    rw [e, ptErr_append, h0]
    by_cases h : (appl t p).2 = 0 <;> simp [ptErr, h]
  refine ⟨fun h => by rw [e1, h], fun h => ?_⟩
  have := ptErr_append t (q.take (k + 1)) (q.drop (k + 1))
  rw [List.take_append_drop, e1, if_pos h] at this
  exact this
theorem pts_le (s : Sg) : (ptsOf s).length ≤ 3 := by
  unfold ptsOf
  have := nm_range s.v
  simp only [List.length_take, List.length_cons, List.length_nil]
  omega


set_option maxRecDepth 100000 in
set_option maxHeartbeats 4000000 in
theorem c_trans (l : List Sg) (t : AF) (ht : t.le 100000) (hlen : l.length ≤ 300) : CallsG Tryz.prog 7 [.sl sgE l, .agg (afE t)] [] (.tup [.sl sgE (trans t l).1, i64 (trans t l).2]) [] := by
  refine calls_to tok mix Tryz.func7 rfl rfl rfl ?_
  have bad : ∀ e : Int, trans t l = ([], e) → LE (.tup [.val (.slice none 0 0), i64 e]) (.tup [.sl sgE (trans t l).1, i64 (trans t l).2]) := fun e h => by
    rw [h]; exact LE_tup2 LE_nil0 .refl
  refine CallV.to _ (c_valid l) rfl ?_
  refine Br.mk (fun h1 => ?_) (fun h1 => ?_)
  · exact bad 10 (by rw [trans, if_pos h1])
  intro hl
  refine ⟨Nat × Option (List Sg), fun q => match q with
      | (i, none) => ⟨[(19, i64 i), (18, i64 l.length), (17, .sl sgE l), (6, .val (.slice none 0 0)), (3, .loc 0 0)], [(0, .box 29 (afE t))], 1, 53, 0⟩
      | (i, some out) => ⟨[(19, i64 i), (18, i64 l.length), (17, .sl sgE l), (6, .own 1), (3, .loc 0 0)], [(1, .arr 44 sgE 7 out), (0, .box 29 (afE t))], 2, 53, 0⟩,
    fun q => match q with
      | (i, none) => i = 0
      | (i, some out) => i ≤ l.length ∧ out = (l.take i).map (goSg t) ∧ ptErr t (allPts (l.take i)) = 0, fun q => l.length - q.1, (0, none), rfl, ?_, ?_⟩
  · exact sub_of [(0, some 0)] rfl rfl rfl ⟨rfl, rfl, rfl, rfl, rfl, trivial⟩ ⟨rfl, trivial⟩
  have errs : ∀ (i : Nat) (x : Sg) (p : Pt) (k : Nat), ptErr t (allPts (l.take i)) = 0 → l[i]? = some x → ptErr t ((ptsOf x).take k) = 0 → (ptsOf x)[k]? = some p → (appl t p).2 ≠ 0 → trans t l = ([], (appl t p).2) := by
    intro i x p k h0 hx hk hp he
    have e2 := (ptErr_at hk hp).2 he
    have e3 : ptErr t (allPts l) = (appl t p).2 := by
      have hd := drop_at hx
      have : allPts l = allPts (l.take i) ++ (ptsOf x ++ allPts (l.drop (i + 1))) := by
        conv => lhs; rw [← List.take_append_drop i l, hd]
        simp [allPts]
      rw [this, ptErr_append, h0]
      simp only [ne_eq, not_true_eq_false, if_false]
      rw [ptErr_append, e2, if_pos he]
    rw [trans, if_neg h1, e3, if_pos he]
  have fin0 : ∀ i x, ptErr t (allPts (l.take i)) = 0 → l[i]? = some x → ptErr t (ptsOf x) = 0 → ptErr t (allPts (l.take (i + 1))) = 0 := fun i x h0 hx hk => by
    rw [allPts_take hx, ptErr_append, h0]; simpa using hk
  rintro ⟨i, _ | out⟩ hI
  · have hI : i = 0 := hI
    subst hI
    have hi0 : ptErr t (allPts (l.take 0)) = 0 := rfl
    have hil : 0 ≤ l.length := Nat.zero_le _
    refine Br.mk (fun h2 => ?_) (fun h2 => ?_)
    · refine Ob.mk (by omega) ?_
      intro x hx
      have hx : l[0]? = some x := hx
      refine CallV.to _ (c_points x) rfl ?_
      intro hl4
      refine ⟨Nat × Option (List Pt), fun q => match q with
          | (k, none) => ⟨[(26, i64 k), (25, i64 (ptsOf x).length), (24, .sl ptE (ptsOf x)), (9, .val (.slice none 0 0)), (8, .loc 1 0), (19, i64 (0 : Nat)), (18, i64 l.length), (17, .sl sgE l), (6, .val (.slice none 0 0)), (3, .loc 0 0)], [(1, .box 44 (sgE x)), (0, .box 29 (afE t))], 2, 53, 0⟩
          | (k, some to) => ⟨[(26, i64 k), (25, i64 (ptsOf x).length), (24, .sl ptE (ptsOf x)), (9, .own 2), (8, .loc 1 0), (19, i64 (0 : Nat)), (18, i64 l.length), (17, .sl sgE l), (6, .val (.slice none 0 0)), (3, .loc 0 0)], [(2, .arr 42 ptE 2 to), (1, .box 44 (sgE x)), (0, .box 29 (afE t))], 3, 53, 0⟩,
        fun q => match q with
          | (k, none) => k = 0
          | (k, some to) => k ≤ (ptsOf x).length ∧ to = ((ptsOf x).take k).map (fun p => (appl t p).1) ∧ ptErr t ((ptsOf x).take k) = 0, fun q => (ptsOf x).length - q.1, (0, none), rfl, ?_, ?_⟩
      · exact sub_of [(0, some 0), (1, some 1)] rfl rfl rfl ⟨rfl, rfl, rfl, rfl, rfl, rfl, rfl, rfl, rfl, rfl, trivial⟩ ⟨rfl, rfl, trivial⟩
      have hx3 := pts_le x
      rintro ⟨k, _ | to⟩ hK
      · have hK : k = 0 := hK
        subst hK
        have hk0 : ptErr t ((ptsOf x).take 0) = 0 := rfl
        have hkl : 0 ≤ (ptsOf x).length := Nat.zero_le _
        refine Br.mk (fun h4 => ?_) (fun h4 => ?_)
        · refine Ob.mk (by omega) ?_
          intro p hp
          have hp : (ptsOf x)[0]? = some p := hp
          refine CallV.to _ (a_apply t p ht) rfl ?_
          refine Br.mk (fun h5 => ?_) (fun h5 => ?_)
          · exact bad _ (errs 0 x p 0 hi0 hx hk0 hp h5)
          have h5 : (appl t p).2 = 0 := Classical.byContradiction h5
          have hk1 := (ptErr_at hk0 hp).1 h5
          refine ⟨Pt, ptE, [(appl t p).1], rfl, Ob.mk ⟨rfl, by decide, by decide, by decide, fun x _ => ⟨rfl, rfl, rfl⟩⟩ ?_⟩
          refine ⟨_, _, _, rfl, Ob.mk ⟨(by show ((1 : Nat) : Int) * (16 : Int) ≤ 140737488355328; decide), (by show 1 ≤ 281474976710656; decide), by decide, fun _ _ => rfl⟩ ?_⟩
          refine Ar.fit (by decide) ?_
          refine ⟨(1, some [(appl t p).1]), ⟨by omega, (by rw [List.take_add_one, hp]; rfl), hk1⟩, sub_of [(0, some 0), (1, some 1), (2, some 5)] rfl rfl rfl ⟨rfl, rfl, rfl, rfl, rfl, rfl, rfl, rfl, rfl, rfl, trivial⟩ ⟨rfl, rfl, rfl, trivial⟩, by dsimp only; omega⟩
        · have hp0 : ptsOf x = [] := List.length_eq_zero_iff.1 (by omega)
          have hgo : withS x.v [] = goSg t x := by rw [goSg, hp0]; rfl
          have hall := fin0 0 x hi0 hx (by rw [hp0]; rfl)
          refine CallV.to _ ((c_with x.v []).args (.cons .refl (.cons LE_nil0 .nil))) rfl ?_
          rw [hgo]
          refine ⟨Sg, sgE, [goSg t x], rfl, Ob.mk ⟨rfl, by decide, by decide, by decide, fun x _ => ⟨rfl, rfl, rfl⟩⟩ ?_⟩
          refine ⟨_, _, _, rfl, Ob.mk ⟨(by show ((1 : Nat) : Int) * (56 : Int) ≤ 140737488355328; decide), (by show 1 ≤ 281474976710656; decide), by decide, fun _ _ => rfl⟩ ?_⟩
          refine Ar.fit (by decide) ?_
          refine ⟨(1, some [goSg t x]), ⟨by omega, (by rw [List.take_add_one, hx]; rfl), hall⟩, (by first | exact sub_of [(0, some 0), (1, some 2)] rfl rfl rfl ⟨rfl, rfl, rfl, rfl, rfl, trivial⟩ ⟨rfl, rfl, trivial⟩ | exact sub_of [(0, some 0), (1, some 3)] rfl rfl rfl ⟨rfl, rfl, rfl, rfl, rfl, trivial⟩ ⟨rfl, rfl, trivial⟩ | exact sub_of [(0, some 0), (1, some 4)] rfl rfl rfl ⟨rfl, rfl, rfl, rfl, rfl, trivial⟩ ⟨rfl, rfl, trivial⟩ | exact sub_of [(0, some 0), (1, some 5)] rfl rfl rfl ⟨rfl, rfl, rfl, rfl, rfl, trivial⟩ ⟨rfl, rfl, trivial⟩ | exact sub_of [(0, some 0), (1, some 6)] rfl rfl rfl ⟨rfl, rfl, rfl, rfl, rfl, trivial⟩ ⟨rfl, rfl, trivial⟩ | exact sub_of [(0, some 0), (1, some 7)] rfl rfl rfl ⟨rfl, rfl, rfl, rfl, rfl, trivial⟩ ⟨rfl, rfl, trivial⟩ | exact sub_of [(0, some 0), (1, some 8)] rfl rfl rfl ⟨rfl, rfl, rfl, rfl, rfl, trivial⟩ ⟨rfl, rfl, trivial⟩), by dsimp only; omega⟩
      · obtain ⟨hkl, hto, hk0⟩ := hK
        refine Br.mk (fun h4 => ?_) (fun h4 => ?_)
        · refine Ob.mk (by omega) ?_
          intro p hp
          have hp : (ptsOf x)[k]? = some p := hp
          refine CallV.to _ (a_apply t p ht) rfl ?_
          refine Br.mk (fun h5 => ?_) (fun h5 => ?_)
          · exact bad _ (errs 0 x p k hi0 hx hk0 hp h5)
          have h5 : (appl t p).2 = 0 := Classical.byContradiction h5
          have hk1 := (ptErr_at hk0 hp).1 h5
          refine ⟨Pt, ptE, [(appl t p).1], rfl, Ob.mk ⟨rfl, by decide, by decide, by decide, fun x _ => ⟨rfl, rfl, rfl⟩⟩ ?_⟩
          have htl : to.length = k := by rw [hto]; simp; omega
          refine ⟨_, rfl, Ob.mk ⟨(by show ((_ : Int) + ((1 : Nat) : Int)) * (16 : Int) ≤ _; omega), (by show _ + 1 ≤ _; omega), by decide, fun _ _ => rfl⟩ ?_⟩
          refine Ar.fit (by omega) ?_
          refine ⟨(k + 1, some (to ++ [(appl t p).1])), ⟨by omega, (by rw [List.take_add_one, hp, hto]; simp), hk1⟩, sub_of [(0, some 0), (1, some 1), (2, some 6)] rfl rfl rfl ⟨rfl, rfl, rfl, rfl, rfl, rfl, rfl, rfl, rfl, rfl, trivial⟩ ⟨rfl, rfl, rfl, trivial⟩, by dsimp only; omega⟩
        · have hkk : k = (ptsOf x).length := by omega
          subst hkk
          rw [List.take_length] at hto hk0
          have hgo : withS x.v to = goSg t x := by rw [goSg, hto]
          have hall := fin0 0 x hi0 hx hk0
          refine CallV.to _ (c_with x.v to) rfl ?_
          rw [hgo]
          refine ⟨Sg, sgE, [goSg t x], rfl, Ob.mk ⟨rfl, by decide, by decide, by decide, fun x _ => ⟨rfl, rfl, rfl⟩⟩ ?_⟩
          refine ⟨_, _, _, rfl, Ob.mk ⟨(by show ((1 : Nat) : Int) * (56 : Int) ≤ 140737488355328; decide), (by show 1 ≤ 281474976710656; decide), by decide, fun _ _ => rfl⟩ ?_⟩
          refine Ar.fit (by decide) ?_
          refine ⟨(1, some [goSg t x]), ⟨by omega, (by rw [List.take_add_one, hx]; rfl), hall⟩, (by first | exact sub_of [(0, some 0), (1, some 2)] rfl rfl rfl ⟨rfl, rfl, rfl, rfl, rfl, trivial⟩ ⟨rfl, rfl, trivial⟩ | exact sub_of [(0, some 0), (1, some 3)] rfl rfl rfl ⟨rfl, rfl, rfl, rfl, rfl, trivial⟩ ⟨rfl, rfl, trivial⟩ | exact sub_of [(0, some 0), (1, some 4)] rfl rfl rfl ⟨rfl, rfl, rfl, rfl, rfl, trivial⟩ ⟨rfl, rfl, trivial⟩ | exact sub_of [(0, some 0), (1, some 5)] rfl rfl rfl ⟨rfl, rfl, rfl, rfl, rfl, trivial⟩ ⟨rfl, rfl, trivial⟩ | exact sub_of [(0, some 0), (1, some 6)] rfl rfl rfl ⟨rfl, rfl, rfl, rfl, rfl, trivial⟩ ⟨rfl, rfl, trivial⟩ | exact sub_of [(0, some 0), (1, some 7)] rfl rfl rfl ⟨rfl, rfl, rfl, rfl, rfl, trivial⟩ ⟨rfl, rfl, trivial⟩ | exact sub_of [(0, some 0), (1, some 8)] rfl rfl rfl ⟨rfl, rfl, rfl, rfl, rfl, trivial⟩ ⟨rfl, rfl, trivial⟩), by dsimp only; omega⟩
    · have hii : 0 = l.length := by omega
      have htr : trans t l = (l.map (goSg t), 0) := by
        rw [hii, List.take_length] at hi0
        rw [trans, if_neg h1, hi0, if_neg (fun k => k rfl)]
      exact bad 0 (by rw [htr, List.length_eq_zero_iff.1 hii.symm]; rfl)
  · obtain ⟨hil, hout, hi0⟩ := hI
    refine Br.mk (fun h2 => ?_) (fun h2 => ?_)
    · refine Ob.mk (by omega) ?_
      intro x hx
      have hx : l[i]? = some x := hx
      refine CallV.to _ (c_points x) rfl ?_
      intro hl4
      refine ⟨Nat × Option (List Pt), fun q => match q with
          | (k, none) => ⟨[(26, i64 k), (25, i64 (ptsOf x).length), (24, .sl ptE (ptsOf x)), (9, .val (.slice none 0 0)), (8, .loc 2 0), (19, i64 i), (18, i64 l.length), (17, .sl sgE l), (6, .own 1), (3, .loc 0 0)], [(2, .box 44 (sgE x)), (1, .arr 44 sgE 7 out), (0, .box 29 (afE t))], 3, 53, 0⟩
          | (k, some to) => ⟨[(26, i64 k), (25, i64 (ptsOf x).length), (24, .sl ptE (ptsOf x)), (9, .own 3), (8, .loc 2 0), (19, i64 i), (18, i64 l.length), (17, .sl sgE l), (6, .own 1), (3, .loc 0 0)], [(3, .arr 42 ptE 2 to), (2, .box 44 (sgE x)), (1, .arr 44 sgE 7 out), (0, .box 29 (afE t))], 4, 53, 0⟩,
        fun q => match q with
          | (k, none) => k = 0
          | (k, some to) => k ≤ (ptsOf x).length ∧ to = ((ptsOf x).take k).map (fun p => (appl t p).1) ∧ ptErr t ((ptsOf x).take k) = 0, fun q => (ptsOf x).length - q.1, (0, none), rfl, ?_, ?_⟩
      · exact sub_of [(0, some 0), (1, some 1), (2, some 2)] rfl rfl rfl ⟨rfl, rfl, rfl, rfl, rfl, rfl, rfl, rfl, rfl, rfl, trivial⟩ ⟨rfl, rfl, rfl, trivial⟩
      have hx3 := pts_le x
      rintro ⟨k, _ | to⟩ hK
      · have hK : k = 0 := hK
        subst hK
        have hk0 : ptErr t ((ptsOf x).take 0) = 0 := rfl
        have hkl : 0 ≤ (ptsOf x).length := Nat.zero_le _
        refine Br.mk (fun h4 => ?_) (fun h4 => ?_)
        · refine Ob.mk (by omega) ?_
          intro p hp
          have hp : (ptsOf x)[0]? = some p := hp
          refine CallV.to _ (a_apply t p ht) rfl ?_
          refine Br.mk (fun h5 => ?_) (fun h5 => ?_)
          · exact bad _ (errs i x p 0 hi0 hx hk0 hp h5)
          have h5 : (appl t p).2 = 0 := Classical.byContradiction h5
          have hk1 := (ptErr_at hk0 hp).1 h5
          refine ⟨Pt, ptE, [(appl t p).1], rfl, Ob.mk ⟨rfl, by decide, by decide, by decide, fun x _ => ⟨rfl, rfl, rfl⟩⟩ ?_⟩
          refine ⟨_, _, _, rfl, Ob.mk ⟨(by show ((1 : Nat) : Int) * (16 : Int) ≤ 140737488355328; decide), (by show 1 ≤ 281474976710656; decide), by decide, fun _ _ => rfl⟩ ?_⟩
          refine Ar.fit (by decide) ?_
          refine ⟨(1, some [(appl t p).1]), ⟨by omega, (by rw [List.take_add_one, hp]; rfl), hk1⟩, sub_of [(0, some 0), (1, some 1), (2, some 2), (3, some 6)] rfl rfl rfl ⟨rfl, rfl, rfl, rfl, rfl, rfl, rfl, rfl, rfl, rfl, trivial⟩ ⟨rfl, rfl, rfl, rfl, trivial⟩, by dsimp only; omega⟩
        · have hp0 : ptsOf x = [] := List.length_eq_zero_iff.1 (by omega)
          have hgo : withS x.v [] = goSg t x := by rw [goSg, hp0]; rfl
          have hall := fin0 i x hi0 hx (by rw [hp0]; rfl)
          refine CallV.to _ ((c_with x.v []).args (.cons .refl (.cons LE_nil0 .nil))) rfl ?_
          rw [hgo]
          refine ⟨Sg, sgE, [goSg t x], rfl, Ob.mk ⟨rfl, by decide, by decide, by decide, fun x _ => ⟨rfl, rfl, rfl⟩⟩ ?_⟩
          have hol : out.length = i := by rw [hout]; simp; omega
          refine ⟨_, rfl, Ob.mk ⟨(by show ((_ : Int) + ((1 : Nat) : Int)) * (56 : Int) ≤ _; omega), (by show _ + 1 ≤ _; omega), by decide, fun _ _ => rfl⟩ ?_⟩
          refine Ar.fit (by omega) ?_
          refine ⟨(i + 1, some (out ++ [goSg t x])), ⟨by omega, (by rw [List.take_add_one, hx, hout]; simp), hall⟩, (by first | exact sub_of [(0, some 0), (1, some 2)] rfl rfl rfl ⟨rfl, rfl, rfl, rfl, rfl, trivial⟩ ⟨rfl, rfl, trivial⟩ | exact sub_of [(0, some 0), (1, some 3)] rfl rfl rfl ⟨rfl, rfl, rfl, rfl, rfl, trivial⟩ ⟨rfl, rfl, trivial⟩ | exact sub_of [(0, some 0), (1, some 4)] rfl rfl rfl ⟨rfl, rfl, rfl, rfl, rfl, trivial⟩ ⟨rfl, rfl, trivial⟩ | exact sub_of [(0, some 0), (1, some 5)] rfl rfl rfl ⟨rfl, rfl, rfl, rfl, rfl, trivial⟩ ⟨rfl, rfl, trivial⟩ | exact sub_of [(0, some 0), (1, some 6)] rfl rfl rfl ⟨rfl, rfl, rfl, rfl, rfl, trivial⟩ ⟨rfl, rfl, trivial⟩ | exact sub_of [(0, some 0), (1, some 7)] rfl rfl rfl ⟨rfl, rfl, rfl, rfl, rfl, trivial⟩ ⟨rfl, rfl, trivial⟩ | exact sub_of [(0, some 0), (1, some 8)] rfl rfl rfl ⟨rfl, rfl, rfl, rfl, rfl, trivial⟩ ⟨rfl, rfl, trivial⟩), by dsimp only; omega⟩
      · obtain ⟨hkl, hto, hk0⟩ := hK
        refine Br.mk (fun h4 => ?_) (fun h4 => ?_)
        · refine Ob.mk (by omega) ?_
          intro p hp
          have hp : (ptsOf x)[k]? = some p := hp
          refine CallV.to _ (a_apply t p ht) rfl ?_
          refine Br.mk (fun h5 => ?_) (fun h5 => ?_)
          · exact bad _ (errs i x p k hi0 hx hk0 hp h5)
          have h5 : (appl t p).2 = 0 := Classical.byContradiction h5
          have hk1 := (ptErr_at hk0 hp).1 h5
          refine ⟨Pt, ptE, [(appl t p).1], rfl, Ob.mk ⟨rfl, by decide, by decide, by decide, fun x _ => ⟨rfl, rfl, rfl⟩⟩ ?_⟩
          have htl : to.length = k := by rw [hto]; simp; omega
          refine ⟨_, rfl, Ob.mk ⟨(by show ((_ : Int) + ((1 : Nat) : Int)) * (16 : Int) ≤ _; omega), (by show _ + 1 ≤ _; omega), by decide, fun _ _ => rfl⟩ ?_⟩
          refine Ar.fit (by omega) ?_
          refine ⟨(k + 1, some (to ++ [(appl t p).1])), ⟨by omega, (by rw [List.take_add_one, hp, hto]; simp), hk1⟩, sub_of [(0, some 0), (1, some 1), (2, some 2), (3, some 7)] rfl rfl rfl ⟨rfl, rfl, rfl, rfl, rfl, rfl, rfl, rfl, rfl, rfl, trivial⟩ ⟨rfl, rfl, rfl, rfl, trivial⟩, by dsimp only; omega⟩
        · have hkk : k = (ptsOf x).length := by omega
          subst hkk
          rw [List.take_length] at hto hk0
          have hgo : withS x.v to = goSg t x := by rw [goSg, hto]
          have hall := fin0 i x hi0 hx hk0
          refine CallV.to _ (c_with x.v to) rfl ?_
          rw [hgo]
          refine ⟨Sg, sgE, [goSg t x], rfl, Ob.mk ⟨rfl, by decide, by decide, by decide, fun x _ => ⟨rfl, rfl, rfl⟩⟩ ?_⟩
          have hol : out.length = i := by rw [hout]; simp; omega
          refine ⟨_, rfl, Ob.mk ⟨(by show ((_ : Int) + ((1 : Nat) : Int)) * (56 : Int) ≤ _; omega), (by show _ + 1 ≤ _; omega), by decide, fun _ _ => rfl⟩ ?_⟩
          refine Ar.fit (by omega) ?_
          refine ⟨(i + 1, some (out ++ [goSg t x])), ⟨by omega, (by rw [List.take_add_one, hx, hout]; simp), hall⟩, (by first | exact sub_of [(0, some 0), (1, some 2)] rfl rfl rfl ⟨rfl, rfl, rfl, rfl, rfl, trivial⟩ ⟨rfl, rfl, trivial⟩ | exact sub_of [(0, some 0), (1, some 3)] rfl rfl rfl ⟨rfl, rfl, rfl, rfl, rfl, trivial⟩ ⟨rfl, rfl, trivial⟩ | exact sub_of [(0, some 0), (1, some 4)] rfl rfl rfl ⟨rfl, rfl, rfl, rfl, rfl, trivial⟩ ⟨rfl, rfl, trivial⟩ | exact sub_of [(0, some 0), (1, some 5)] rfl rfl rfl ⟨rfl, rfl, rfl, rfl, rfl, trivial⟩ ⟨rfl, rfl, trivial⟩ | exact sub_of [(0, some 0), (1, some 6)] rfl rfl rfl ⟨rfl, rfl, rfl, rfl, rfl, trivial⟩ ⟨rfl, rfl, trivial⟩ | exact sub_of [(0, some 0), (1, some 7)] rfl rfl rfl ⟨rfl, rfl, rfl, rfl, rfl, trivial⟩ ⟨rfl, rfl, trivial⟩ | exact sub_of [(0, some 0), (1, some 8)] rfl rfl rfl ⟨rfl, rfl, rfl, rfl, rfl, trivial⟩ ⟨rfl, rfl, trivial⟩), by dsimp only; omega⟩
    · have hii : i = l.length := by omega
      have htr : trans t l = (l.map (goSg t), 0) := by
        rw [hii, List.take_length] at hi0
        rw [trans, if_neg h1, hi0, if_neg (fun k => k rfl)]
      rw [hii, List.take_length] at hout
      rw [htr, ← hout]
      exact LE_tup2 .refl .refl
end Go.Gs
