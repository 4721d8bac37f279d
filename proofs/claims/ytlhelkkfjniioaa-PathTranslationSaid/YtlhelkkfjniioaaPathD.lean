/- A point under a transform, the program's. -/
import Derived.Test.YtlhelkkfjniioaaPathA
import Derived.Test.YtlhelkkfjniioaaNumD
import Derived.Test.YtlhelkkfjniioaaPathB
import Derived.Test.YtlhelkkfjniioaaPathC
import Derived.Test.YtlhelkkfjniioaaNumA
namespace Go.Gs
open Go.Proofs

/-- Where a point goes. -/
def goP (t : AF) (p : Pt) : Pt := ⟨(applX t (p.x : Rat) (p.y : Rat) + Rat.divInt 1 2).floor, (applY t (p.x : Rat) (p.y : Rat) + Rat.divInt 1 2).floor⟩
/-- The point, or the error. -/
def appl (t : AF) (p : Pt) : Pt × Int := if ¬ t.ok then (zp, 5) else if ¬ ptOK p then (zp, 6) else if ptOK (goP t p) then (goP t p, 0) else (zp, 6)

set_option maxRecDepth 100000 in
set_option maxHeartbeats 4000000 in
theorem a_apply (t : AF) (p : Pt) (ht : t.le 100000) : CallsG Try.prog 70 [.agg (afE t), .agg (ptE p)] [] (.tup [.agg (ptE (appl t p).1), i64 (appl t p).2]) [] := by
  obtain ⟨ha, hb, hc, hd, he, hf⟩ := ht
  refine calls_to tok mix Try.func70 rfl rfl rfl ?_
  have fin : ∀ (q : Pt) (n : Int), (appl t p) = (q, n) → LE (.tup [.agg (ptE q), i64 n]) (.tup [.agg (ptE (appl t p).1), i64 (appl t p).2]) := fun q n h => by rw [h]; exact .refl
  refine CallV.to _ (a_valid t ⟨by omega, by omega, by omega, by omega, by omega, by omega⟩) rfl ?_
  refine Br.mk (fun h1 => ?_) (fun h1 => ?_)
  · exact fin zp 5 (by rw [appl, if_pos h1])
  refine CallV.to _ (c_vvalid p) rfl ?_
  refine Br.mk (fun h2 => ?_) (fun h2 => ?_)
  · exact fin zp 6 (by rw [appl, if_neg h1, if_pos h2])
  have hp : ptOK p := Classical.byContradiction h2
  have hx : R64 p.x := by unfold R64; unfold ptOK at hp; omega
  have hy : R64 p.y := by unfold R64; unfold ptOK at hp; omega
  have lx := qlen_int p.x
  have ly := qlen_int p.y
  have zx := zlen_i64 hx
  have zy := zlen_i64 hy
  refine Dr.mk (by decide +kernel) ?_
  refine CallV.to _ (q_fromint p.x hx) rfl ?_
  refine CallV.to _ (q_fromint p.y hy) rfl ?_
  refine CallV.to _ (a_exact t (ofQ (p.x : Rat)) (ofQ (p.y : Rat)) ⟨by omega, by omega, by omega, by omega, by omega, by omega⟩ (by rw [ofQ_len]; omega) (by rw [ofQ_len]; omega)) rfl ?_
  rw [ofQ_v, ofQ_v]
  have lX := qlen_twos t.a (ofQ (p.x : Rat)) t.c (ofQ (p.y : Rat)) t.e (n := 100000) ha (by rw [ofQ_len]; omega) hc (by rw [ofQ_len]; omega) he
  have lY := qlen_twos t.b (ofQ (p.x : Rat)) t.d (ofQ (p.y : Rat)) t.f (n := 100000) hb (by rw [ofQ_len]; omega) hd (by rw [ofQ_len]; omega) hf
  rw [ofQ_v, ofQ_v] at lX lY
  have lh : qlen (Rat.divInt 1 2) ≤ 1 := by decide +kernel
  have mX := qlen_add (applX t p.x p.y) (Rat.divInt 1 2)
  have mY := qlen_add (applY t p.x p.y) (Rat.divInt 1 2)
  have lX2 : qlen (applX t p.x p.y) ≤ 500007 := lX.2
  have lY2 : qlen (applY t p.x p.y) ≤ 500007 := lY.2
  have fl : ∀ q : Rat, zlen q.floor ≤ qlen q := fun q => Nat.le_trans (zlen_mono (by
    rw [Rat.floor_def]
    exact Int.natAbs_ediv_le_natAbs _ _)) (qlen_num q)
  have fX := fl (applX t p.x p.y + Rat.divInt 1 2)
  have fY := fl (applY t p.x p.y + Rat.divInt 1 2)
  refine CallV.to _ (q_fromints 1 2 (by decide) (by decide) (by decide)) rfl ?_
  refine CallV.to _ (q_add (ofQ (applX t p.x p.y)) (ofQ (Rat.divInt 1 2)) (by rw [ofQ_len]; omega) (by rw [ofQ_len]; omega)) rfl ?_
  rw [ofQ_v, ofQ_v]
  refine CallV.to _ (q_floor (ofQ (applX t p.x p.y + Rat.divInt 1 2)) (by rw [ofQ_len]; omega)) rfl ?_
  rw [ofQ_v]
  refine CallV.to _ (z_toint (ofZ (applX t p.x p.y + Rat.divInt 1 2).floor) (by rw [ofZ_len]; omega)) rfl ?_
  refine CallV.to _ (q_add (ofQ (applY t p.x p.y)) (ofQ (Rat.divInt 1 2)) (by rw [ofQ_len]; omega) (by rw [ofQ_len]; omega)) rfl ?_
  rw [ofQ_v, ofQ_v]
  refine CallV.to _ (q_floor (ofQ (applY t p.x p.y + Rat.divInt 1 2)) (by rw [ofQ_len]; omega)) rfl ?_
  rw [ofQ_v]
  refine CallV.to _ (z_toint (ofZ (applY t p.x p.y + Rat.divInt 1 2).floor) (by rw [ofZ_len]; omega)) rfl ?_
  rw [ofZ_v, ofZ_v]
  obtain ⟨X, hX⟩ : ∃ X, (applX t p.x p.y + Rat.divInt 1 2).floor = X := ⟨_, rfl⟩
  obtain ⟨Y, hY⟩ : ∃ Y, (applY t p.x p.y + Rat.divInt 1 2).floor = Y := ⟨_, rfl⟩
  have hg : goP t p = ⟨X, Y⟩ := by unfold goP; rw [hX, hY]
  rw [hX, hY]
  have out : ¬ ptOK ⟨X, Y⟩ → appl t p = (zp, 6) := fun h => by rw [appl, if_neg h1, if_neg h2, if_neg (by rw [hg]; exact h)]
  have inn : ptOK ⟨X, Y⟩ → appl t p = (⟨X, Y⟩, 0) := fun h => by rw [appl, if_neg h1, if_neg h2, if_pos (by rw [hg]; exact h), hg]
  have big : ptOK ⟨X, Y⟩ → (-9223372036854775808 ≤ X ∧ X ≤ 9223372036854775807) ∧ (-9223372036854775808 ≤ Y ∧ Y ≤ 9223372036854775807) := fun h => by unfold ptOK at h; dsimp only at h; omega
  refine Br.mk (fun h3 => ?_) (fun h3 => ?_)
  · refine Br.mk (fun h4 => ?_) (fun h4 => ?_)
    · refine CallV.to _ (c_vvalid ⟨fitI X, fitI Y⟩) rfl ?_
      rw [fitI, if_pos h3, fitI, if_pos h4]
      refine Br.mk (fun h5 => ?_) (fun h5 => ?_)
      · exact fin ⟨X, Y⟩ 0 (inn h5)
      · exact fin zp 6 (out h5)
    · exact fin zp 6 (out fun h => h4 (big h).2)
  · exact fin zp 6 (out fun h => h3 (big h).1)

end Go.Gs
/- A path under a transform, the program's. -/
namespace Go.Gs
open Go.Proofs

/-- The first error that the points meet. -/
def ptErr (t : AF) : List Pt → Int
  | [] => 0
  | p :: r => if (appl t p).2 ≠ 0 then (appl t p).2 else ptErr t r
def goSg (t : AF) (s : Sg) : Sg := withS s.v ((ptsOf s).map fun p => (appl t p).1)
def trans (t : AF) (l : List Sg) : List Sg × Int :=
  if ¬ valid l then ([], 10) else if ptErr t (allPts l) ≠ 0 then ([], ptErr t (allPts l)) else (l.map (goSg t), 0)
theorem ptErr_append (t : AF) : ∀ q r : List Pt, ptErr t (q ++ r) = if ptErr t q ≠ 0 then ptErr t q else ptErr t r
  | [], r => by simp [ptErr]
  | p :: q, r => by
    rw [List.cons_append, ptErr, ptErr, ptErr_append t q r]
    by_cases h : (appl t p).2 = 0
    · simp [h]
    · simp [h]
theorem ptErr_at {t : AF} {q : List Pt} {k : Nat} {p : Pt} (h0 : ptErr t (q.take k) = 0) (hp : q[k]? = some p) :
    ((appl t p).2 = 0 → ptErr t (q.take (k + 1)) = 0) ∧ ((appl t p).2 ≠ 0 → ptErr t q = (appl t p).2) := by
  have e : q.take (k + 1) = q.take k ++ [p] := by rw [List.take_add_one, hp]; rfl
  have e1 : ptErr t (q.take (k + 1)) = (appl t p).2 := by
    rw [e, ptErr_append, h0]
    by_cases h : (appl t p).2 = 0 <;> simp [ptErr, h]
  refine ⟨fun h => by rw [e1, h], fun h => ?_⟩
  have := ptErr_append t (q.take (k + 1)) (q.drop (k + 1))
  rw [List.take_append_drop, e1, if_pos h] at this
  exact this
theorem pts_le (s : Sg) : (ptsOf s).length ≤ 3 := by
  unfold ptsOf
  have := nm_range s.v
  simp only [List.length_take, List.length_cons, List.length_nil]
  omega


set_option maxRecDepth 100000 in
set_option maxHeartbeats 4000000 in
theorem c_trans (l : List Sg) (t : AF) (ht : t.le 100000) (hlen : l.length ≤ 300) : CallsG Try.prog 36 [.sl sgE l, .agg (afE t)] [] (.tup [.sl sgE (trans t l).1, i64 (trans t l).2]) [] := by
  refine calls_to tok mix Try.func36 rfl rfl rfl ?_
  have bad : ∀ e : Int, trans t l = ([], e) → LE (.tup [.val (.slice none 0 0), i64 e]) (.tup [.sl sgE (trans t l).1, i64 (trans t l).2]) := fun e h => by
    rw [h]; exact LE_tup2 LE_nil0 .refl
  refine CallV.to _ (c_valid l) rfl ?_
  refine Br.mk (fun h1 => ?_) (fun h1 => ?_)
  · exact bad 10 (by rw [trans, if_pos h1])
  intro hl
  refine ⟨Nat × Option (List Sg), fun q => match q with
      | (i, none) => ⟨[(19, i64 i), (18, i64 l.length), (17, .sl sgE l), (6, .val (.slice none 0 0)), (3, .loc 0 0)], [(0, .box 55 (afE t))], 1, 53, 0⟩
      | (i, some out) => ⟨[(19, i64 i), (18, i64 l.length), (17, .sl sgE l), (6, .own 1), (3, .loc 0 0)], [(1, .arr 62 sgE 7 out), (0, .box 55 (afE t))], 2, 53, 0⟩,
    fun q => match q with
      | (i, none) => i = 0
      | (i, some out) => i ≤ l.length ∧ out = (l.take i).map (goSg t) ∧ ptErr t (allPts (l.take i)) = 0, fun q => l.length - q.1, (0, none), rfl, ?_, ?_⟩
  · exact sub_of [(0, some 0)] rfl rfl rfl ⟨rfl, rfl, rfl, rfl, rfl, trivial⟩ ⟨rfl, trivial⟩
  have errs : ∀ (i : Nat) (x : Sg) (p : Pt) (k : Nat), ptErr t (allPts (l.take i)) = 0 → l[i]? = some x → ptErr t ((ptsOf x).take k) = 0 → (ptsOf x)[k]? = some p → (appl t p).2 ≠ 0 → trans t l = ([], (appl t p).2) := by
    intro i x p k h0 hx hk hp he
    have e2 := (ptErr_at hk hp).2 he
    have e3 : ptErr t (allPts l) = (appl t p).2 := by
      have hd := drop_at hx
      have : allPts l = allPts (l.take i) ++ (ptsOf x ++ allPts (l.drop (i + 1))) := by
        conv => lhs; rw [← List.take_append_drop i l, hd]
        simp [allPts]
      rw [this, ptErr_append, h0]
      simp only [ne_eq, not_true_eq_false, if_false]
      rw [ptErr_append, e2, if_pos he]
    rw [trans, if_neg h1, e3, if_pos he]
  have fin0 : ∀ i x, ptErr t (allPts (l.take i)) = 0 → l[i]? = some x → ptErr t (ptsOf x) = 0 → ptErr t (allPts (l.take (i + 1))) = 0 := fun i x h0 hx hk => by
    rw [allPts_take hx, ptErr_append, h0]; simpa using hk
  rintro ⟨i, _ | out⟩ hI
  · have hI : i = 0 := hI
    subst hI
    have hi0 : ptErr t (allPts (l.take 0)) = 0 := rfl
    have hil : 0 ≤ l.length := Nat.zero_le _
    refine Br.mk (fun h2 => ?_) (fun h2 => ?_)
    · refine Ob.mk (by omega) ?_
      intro x hx
      have hx : l[0]? = some x := hx
      refine CallV.to _ (c_points x) rfl ?_
      intro hl4
      refine ⟨Nat × Option (List Pt), fun q => match q with
          | (k, none) => ⟨[(26, i64 k), (25, i64 (ptsOf x).length), (24, .sl ptE (ptsOf x)), (9, .val (.slice none 0 0)), (8, .loc 1 0), (19, i64 (0 : Nat)), (18, i64 l.length), (17, .sl sgE l), (6, .val (.slice none 0 0)), (3, .loc 0 0)], [(1, .box 62 (sgE x)), (0, .box 55 (afE t))], 2, 53, 0⟩
          | (k, some to) => ⟨[(26, i64 k), (25, i64 (ptsOf x).length), (24, .sl ptE (ptsOf x)), (9, .own 2), (8, .loc 1 0), (19, i64 (0 : Nat)), (18, i64 l.length), (17, .sl sgE l), (6, .val (.slice none 0 0)), (3, .loc 0 0)], [(2, .arr 26 ptE 2 to), (1, .box 62 (sgE x)), (0, .box 55 (afE t))], 3, 53, 0⟩,
        fun q => match q with
          | (k, none) => k = 0
          | (k, some to) => k ≤ (ptsOf x).length ∧ to = ((ptsOf x).take k).map (fun p => (appl t p).1) ∧ ptErr t ((ptsOf x).take k) = 0, fun q => (ptsOf x).length - q.1, (0, none), rfl, ?_, ?_⟩
      · exact sub_of [(0, some 0), (1, some 1)] rfl rfl rfl ⟨rfl, rfl, rfl, rfl, rfl, rfl, rfl, rfl, rfl, rfl, trivial⟩ ⟨rfl, rfl, trivial⟩
      have hx3 := pts_le x
      rintro ⟨k, _ | to⟩ hK
      · have hK : k = 0 := hK
        subst hK
        have hk0 : ptErr t ((ptsOf x).take 0) = 0 := rfl
        have hkl : 0 ≤ (ptsOf x).length := Nat.zero_le _
        refine Br.mk (fun h4 => ?_) (fun h4 => ?_)
        · refine Ob.mk (by omega) ?_
          intro p hp
          have hp : (ptsOf x)[0]? = some p := hp
          refine CallV.to _ (a_apply t p ht) rfl ?_
          refine Br.mk (fun h5 => ?_) (fun h5 => ?_)
          · exact bad _ (errs 0 x p 0 hi0 hx hk0 hp h5)
          have h5 : (appl t p).2 = 0 := Classical.byContradiction h5
          have hk1 := (ptErr_at hk0 hp).1 h5
          refine ⟨Pt, ptE, [(appl t p).1], rfl, Ob.mk ⟨rfl, by decide, by decide, by decide, fun x _ => ⟨rfl, rfl, rfl⟩⟩ ?_⟩
          refine ⟨_, _, _, rfl, Ob.mk ⟨(by show ((1 : Nat) : Int) * (16 : Int) ≤ 140737488355328; decide), (by show 1 ≤ 281474976710656; decide), by decide, fun _ _ => rfl⟩ ?_⟩
          refine Ar.fit (by decide) ?_
          refine ⟨(1, some [(appl t p).1]), ⟨by omega, (by rw [List.take_add_one, hp]; rfl), hk1⟩, sub_of [(0, some 0), (1, some 1), (2, some 5)] rfl rfl rfl ⟨rfl, rfl, rfl, rfl, rfl, rfl, rfl, rfl, rfl, rfl, trivial⟩ ⟨rfl, rfl, rfl, trivial⟩, by dsimp only; omega⟩
        · have hp0 : ptsOf x = [] := List.length_eq_zero_iff.1 (by omega)
          have hgo : withS x.v [] = goSg t x := by rw [goSg, hp0]; rfl
          have hall := fin0 0 x hi0 hx (by rw [hp0]; rfl)
          refine CallV.to _ ((c_with x.v []).args (.cons .refl (.cons LE_nil0 .nil))) rfl ?_
          rw [hgo]
          refine ⟨Sg, sgE, [goSg t x], rfl, Ob.mk ⟨rfl, by decide, by decide, by decide, fun x _ => ⟨rfl, rfl, rfl⟩⟩ ?_⟩
          refine ⟨_, _, _, rfl, Ob.mk ⟨(by show ((1 : Nat) : Int) * (56 : Int) ≤ 140737488355328; decide), (by show 1 ≤ 281474976710656; decide), by decide, fun _ _ => rfl⟩ ?_⟩
          refine Ar.fit (by decide) ?_
          refine ⟨(1, some [goSg t x]), ⟨by omega, (by rw [List.take_add_one, hx]; rfl), hall⟩, (by first | exact sub_of [(0, some 0), (1, some 2)] rfl rfl rfl ⟨rfl, rfl, rfl, rfl, rfl, trivial⟩ ⟨rfl, rfl, trivial⟩ | exact sub_of [(0, some 0), (1, some 3)] rfl rfl rfl ⟨rfl, rfl, rfl, rfl, rfl, trivial⟩ ⟨rfl, rfl, trivial⟩ | exact sub_of [(0, some 0), (1, some 4)] rfl rfl rfl ⟨rfl, rfl, rfl, rfl, rfl, trivial⟩ ⟨rfl, rfl, trivial⟩ | exact sub_of [(0, some 0), (1, some 5)] rfl rfl rfl ⟨rfl, rfl, rfl, rfl, rfl, trivial⟩ ⟨rfl, rfl, trivial⟩ | exact sub_of [(0, some 0), (1, some 6)] rfl rfl rfl ⟨rfl, rfl, rfl, rfl, rfl, trivial⟩ ⟨rfl, rfl, trivial⟩ | exact sub_of [(0, some 0), (1, some 7)] rfl rfl rfl ⟨rfl, rfl, rfl, rfl, rfl, trivial⟩ ⟨rfl, rfl, trivial⟩ | exact sub_of [(0, some 0), (1, some 8)] rfl rfl rfl ⟨rfl, rfl, rfl, rfl, rfl, trivial⟩ ⟨rfl, rfl, trivial⟩), by dsimp only; omega⟩
      · obtain ⟨hkl, hto, hk0⟩ := hK
        refine Br.mk (fun h4 => ?_) (fun h4 => ?_)
        · refine Ob.mk (by omega) ?_
          intro p hp
          have hp : (ptsOf x)[k]? = some p := hp
          refine CallV.to _ (a_apply t p ht) rfl ?_
          refine Br.mk (fun h5 => ?_) (fun h5 => ?_)
          · exact bad _ (errs 0 x p k hi0 hx hk0 hp h5)
          have h5 : (appl t p).2 = 0 := Classical.byContradiction h5
          have hk1 := (ptErr_at hk0 hp).1 h5
          refine ⟨Pt, ptE, [(appl t p).1], rfl, Ob.mk ⟨rfl, by decide, by decide, by decide, fun x _ => ⟨rfl, rfl, rfl⟩⟩ ?_⟩
          have htl : to.length = k := by rw [hto]; simp; omega
          refine ⟨_, rfl, Ob.mk ⟨(by show ((_ : Int) + ((1 : Nat) : Int)) * (16 : Int) ≤ _; omega), (by show _ + 1 ≤ _; omega), by decide, fun _ _ => rfl⟩ ?_⟩
          refine Ar.fit (by omega) ?_
          refine ⟨(k + 1, some (to ++ [(appl t p).1])), ⟨by omega, (by rw [List.take_add_one, hp, hto]; simp), hk1⟩, sub_of [(0, some 0), (1, some 1), (2, some 6)] rfl rfl rfl ⟨rfl, rfl, rfl, rfl, rfl, rfl, rfl, rfl, rfl, rfl, trivial⟩ ⟨rfl, rfl, rfl, trivial⟩, by dsimp only; omega⟩
        · have hkk : k = (ptsOf x).length := by omega
          subst hkk
          rw [List.take_length] at hto hk0
          have hgo : withS x.v to = goSg t x := by rw [goSg, hto]
          have hall := fin0 0 x hi0 hx hk0
          refine CallV.to _ (c_with x.v to) rfl ?_
          rw [hgo]
          refine ⟨Sg, sgE, [goSg t x], rfl, Ob.mk ⟨rfl, by decide, by decide, by decide, fun x _ => ⟨rfl, rfl, rfl⟩⟩ ?_⟩
          refine ⟨_, _, _, rfl, Ob.mk ⟨(by show ((1 : Nat) : Int) * (56 : Int) ≤ 140737488355328; decide), (by show 1 ≤ 281474976710656; decide), by decide, fun _ _ => rfl⟩ ?_⟩
          refine Ar.fit (by decide) ?_
          refine ⟨(1, some [goSg t x]), ⟨by omega, (by rw [List.take_add_one, hx]; rfl), hall⟩, (by first | exact sub_of [(0, some 0), (1, some 2)] rfl rfl rfl ⟨rfl, rfl, rfl, rfl, rfl, trivial⟩ ⟨rfl, rfl, trivial⟩ | exact sub_of [(0, some 0), (1, some 3)] rfl rfl rfl ⟨rfl, rfl, rfl, rfl, rfl, trivial⟩ ⟨rfl, rfl, trivial⟩ | exact sub_of [(0, some 0), (1, some 4)] rfl rfl rfl ⟨rfl, rfl, rfl, rfl, rfl, trivial⟩ ⟨rfl, rfl, trivial⟩ | exact sub_of [(0, some 0), (1, some 5)] rfl rfl rfl ⟨rfl, rfl, rfl, rfl, rfl, trivial⟩ ⟨rfl, rfl, trivial⟩ | exact sub_of [(0, some 0), (1, some 6)] rfl rfl rfl ⟨rfl, rfl, rfl, rfl, rfl, trivial⟩ ⟨rfl, rfl, trivial⟩ | exact sub_of [(0, some 0), (1, some 7)] rfl rfl rfl ⟨rfl, rfl, rfl, rfl, rfl, trivial⟩ ⟨rfl, rfl, trivial⟩ | exact sub_of [(0, some 0), (1, some 8)] rfl rfl rfl ⟨rfl, rfl, rfl, rfl, rfl, trivial⟩ ⟨rfl, rfl, trivial⟩), by dsimp only; omega⟩
    · have hii : 0 = l.length := by omega
      have htr : trans t l = (l.map (goSg t), 0) := by
        rw [hii, List.take_length] at hi0
        rw [trans, if_neg h1, hi0, if_neg (fun k => k rfl)]
      exact bad 0 (by rw [htr, List.length_eq_zero_iff.1 hii.symm]; rfl)
  · obtain ⟨hil, hout, hi0⟩ := hI
    refine Br.mk (fun h2 => ?_) (fun h2 => ?_)
    · refine Ob.mk (by omega) ?_
      intro x hx
      have hx : l[i]? = some x := hx
      refine CallV.to _ (c_points x) rfl ?_
      intro hl4
      refine ⟨Nat × Option (List Pt), fun q => match q with
          | (k, none) => ⟨[(26, i64 k), (25, i64 (ptsOf x).length), (24, .sl ptE (ptsOf x)), (9, .val (.slice none 0 0)), (8, .loc 2 0), (19, i64 i), (18, i64 l.length), (17, .sl sgE l), (6, .own 1), (3, .loc 0 0)], [(2, .box 62 (sgE x)), (1, .arr 62 sgE 7 out), (0, .box 55 (afE t))], 3, 53, 0⟩
          | (k, some to) => ⟨[(26, i64 k), (25, i64 (ptsOf x).length), (24, .sl ptE (ptsOf x)), (9, .own 3), (8, .loc 2 0), (19, i64 i), (18, i64 l.length), (17, .sl sgE l), (6, .own 1), (3, .loc 0 0)], [(3, .arr 26 ptE 2 to), (2, .box 62 (sgE x)), (1, .arr 62 sgE 7 out), (0, .box 55 (afE t))], 4, 53, 0⟩,
        fun q => match q with
          | (k, none) => k = 0
          | (k, some to) => k ≤ (ptsOf x).length ∧ to = ((ptsOf x).take k).map (fun p => (appl t p).1) ∧ ptErr t ((ptsOf x).take k) = 0, fun q => (ptsOf x).length - q.1, (0, none), rfl, ?_, ?_⟩
      · exact sub_of [(0, some 0), (1, some 1), (2, some 2)] rfl rfl rfl ⟨rfl, rfl, rfl, rfl, rfl, rfl, rfl, rfl, rfl, rfl, trivial⟩ ⟨rfl, rfl, rfl, trivial⟩
      have hx3 := pts_le x
      rintro ⟨k, _ | to⟩ hK
      · have hK : k = 0 := hK
        subst hK
        have hk0 : ptErr t ((ptsOf x).take 0) = 0 := rfl
        have hkl : 0 ≤ (ptsOf x).length := Nat.zero_le _
        refine Br.mk (fun h4 => ?_) (fun h4 => ?_)
        · refine Ob.mk (by omega) ?_
          intro p hp
          have hp : (ptsOf x)[0]? = some p := hp
          refine CallV.to _ (a_apply t p ht) rfl ?_
          refine Br.mk (fun h5 => ?_) (fun h5 => ?_)
          · exact bad _ (errs i x p 0 hi0 hx hk0 hp h5)
          have h5 : (appl t p).2 = 0 := Classical.byContradiction h5
          have hk1 := (ptErr_at hk0 hp).1 h5
          refine ⟨Pt, ptE, [(appl t p).1], rfl, Ob.mk ⟨rfl, by decide, by decide, by decide, fun x _ => ⟨rfl, rfl, rfl⟩⟩ ?_⟩
          refine ⟨_, _, _, rfl, Ob.mk ⟨(by show ((1 : Nat) : Int) * (16 : Int) ≤ 140737488355328; decide), (by show 1 ≤ 281474976710656; decide), by decide, fun _ _ => rfl⟩ ?_⟩
          refine Ar.fit (by decide) ?_
          refine ⟨(1, some [(appl t p).1]), ⟨by omega, (by rw [List.take_add_one, hp]; rfl), hk1⟩, sub_of [(0, some 0), (1, some 1), (2, some 2), (3, some 6)] rfl rfl rfl ⟨rfl, rfl, rfl, rfl, rfl, rfl, rfl, rfl, rfl, rfl, trivial⟩ ⟨rfl, rfl, rfl, rfl, trivial⟩, by dsimp only; omega⟩
        · have hp0 : ptsOf x = [] := List.length_eq_zero_iff.1 (by omega)
          have hgo : withS x.v [] = goSg t x := by rw [goSg, hp0]; rfl
          have hall := fin0 i x hi0 hx (by rw [hp0]; rfl)
          refine CallV.to _ ((c_with x.v []).args (.cons .refl (.cons LE_nil0 .nil))) rfl ?_
          rw [hgo]
          refine ⟨Sg, sgE, [goSg t x], rfl, Ob.mk ⟨rfl, by decide, by decide, by decide, fun x _ => ⟨rfl, rfl, rfl⟩⟩ ?_⟩
          have hol : out.length = i := by rw [hout]; simp; omega
          refine ⟨_, rfl, Ob.mk ⟨(by show ((_ : Int) + ((1 : Nat) : Int)) * (56 : Int) ≤ _; omega), (by show _ + 1 ≤ _; omega), by decide, fun _ _ => rfl⟩ ?_⟩
          refine Ar.fit (by omega) ?_
          refine ⟨(i + 1, some (out ++ [goSg t x])), ⟨by omega, (by rw [List.take_add_one, hx, hout]; simp), hall⟩, (by first | exact sub_of [(0, some 0), (1, some 2)] rfl rfl rfl ⟨rfl, rfl, rfl, rfl, rfl, trivial⟩ ⟨rfl, rfl, trivial⟩ | exact sub_of [(0, some 0), (1, some 3)] rfl rfl rfl ⟨rfl, rfl, rfl, rfl, rfl, trivial⟩ ⟨rfl, rfl, trivial⟩ | exact sub_of [(0, some 0), (1, some 4)] rfl rfl rfl ⟨rfl, rfl, rfl, rfl, rfl, trivial⟩ ⟨rfl, rfl, trivial⟩ | exact sub_of [(0, some 0), (1, some 5)] rfl rfl rfl ⟨rfl, rfl, rfl, rfl, rfl, trivial⟩ ⟨rfl, rfl, trivial⟩ | exact sub_of [(0, some 0), (1, some 6)] rfl rfl rfl ⟨rfl, rfl, rfl, rfl, rfl, trivial⟩ ⟨rfl, rfl, trivial⟩ | exact sub_of [(0, some 0), (1, some 7)] rfl rfl rfl ⟨rfl, rfl, rfl, rfl, rfl, trivial⟩ ⟨rfl, rfl, trivial⟩ | exact sub_of [(0, some 0), (1, some 8)] rfl rfl rfl ⟨rfl, rfl, rfl, rfl, rfl, trivial⟩ ⟨rfl, rfl, trivial⟩), by dsimp only; omega⟩
      · obtain ⟨hkl, hto, hk0⟩ := hK
        refine Br.mk (fun h4 => ?_) (fun h4 => ?_)
        · refine Ob.mk (by omega) ?_
          intro p hp
          have hp : (ptsOf x)[k]? = some p := hp
          refine CallV.to _ (a_apply t p ht) rfl ?_
          refine Br.mk (fun h5 => ?_) (fun h5 => ?_)
          · exact bad _ (errs i x p k hi0 hx hk0 hp h5)
          have h5 : (appl t p).2 = 0 := Classical.byContradiction h5
          have hk1 := (ptErr_at hk0 hp).1 h5
          refine ⟨Pt, ptE, [(appl t p).1], rfl, Ob.mk ⟨rfl, by decide, by decide, by decide, fun x _ => ⟨rfl, rfl, rfl⟩⟩ ?_⟩
          have htl : to.length = k := by rw [hto]; simp; omega
          refine ⟨_, rfl, Ob.mk ⟨(by show ((_ : Int) + ((1 : Nat) : Int)) * (16 : Int) ≤ _; omega), (by show _ + 1 ≤ _; omega), by decide, fun _ _ => rfl⟩ ?_⟩
          refine Ar.fit (by omega) ?_
          refine ⟨(k + 1, some (to ++ [(appl t p).1])), ⟨by omega, (by rw [List.take_add_one, hp, hto]; simp), hk1⟩, sub_of [(0, some 0), (1, some 1), (2, some 2), (3, some 7)] rfl rfl rfl ⟨rfl, rfl, rfl, rfl, rfl, rfl, rfl, rfl, rfl, rfl, trivial⟩ ⟨rfl, rfl, rfl, rfl, trivial⟩, by dsimp only; omega⟩
        · have hkk : k = (ptsOf x).length := by omega
          subst hkk
          rw [List.take_length] at hto hk0
          have hgo : withS x.v to = goSg t x := by rw [goSg, hto]
          have hall := fin0 i x hi0 hx hk0
          refine CallV.to _ (c_with x.v to) rfl ?_
          rw [hgo]
          refine ⟨Sg, sgE, [goSg t x], rfl, Ob.mk ⟨rfl, by decide, by decide, by decide, fun x _ => ⟨rfl, rfl, rfl⟩⟩ ?_⟩
          have hol : out.length = i := by rw [hout]; simp; omega
          refine ⟨_, rfl, Ob.mk ⟨(by show ((_ : Int) + ((1 : Nat) : Int)) * (56 : Int) ≤ _; omega), (by show _ + 1 ≤ _; omega), by decide, fun _ _ => rfl⟩ ?_⟩
          refine Ar.fit (by omega) ?_
          refine ⟨(i + 1, some (out ++ [goSg t x])), ⟨by omega, (by rw [List.take_add_one, hx, hout]; simp), hall⟩, (by first | exact sub_of [(0, some 0), (1, some 2)] rfl rfl rfl ⟨rfl, rfl, rfl, rfl, rfl, trivial⟩ ⟨rfl, rfl, trivial⟩ | exact sub_of [(0, some 0), (1, some 3)] rfl rfl rfl ⟨rfl, rfl, rfl, rfl, rfl, trivial⟩ ⟨rfl, rfl, trivial⟩ | exact sub_of [(0, some 0), (1, some 4)] rfl rfl rfl ⟨rfl, rfl, rfl, rfl, rfl, trivial⟩ ⟨rfl, rfl, trivial⟩ | exact sub_of [(0, some 0), (1, some 5)] rfl rfl rfl ⟨rfl, rfl, rfl, rfl, rfl, trivial⟩ ⟨rfl, rfl, trivial⟩ | exact sub_of [(0, some 0), (1, some 6)] rfl rfl rfl ⟨rfl, rfl, rfl, rfl, rfl, trivial⟩ ⟨rfl, rfl, trivial⟩ | exact sub_of [(0, some 0), (1, some 7)] rfl rfl rfl ⟨rfl, rfl, rfl, rfl, rfl, trivial⟩ ⟨rfl, rfl, trivial⟩ | exact sub_of [(0, some 0), (1, some 8)] rfl rfl rfl ⟨rfl, rfl, rfl, rfl, rfl, trivial⟩ ⟨rfl, rfl, trivial⟩), by dsimp only; omega⟩
    · have hii : i = l.length := by omega
      have htr : trans t l = (l.map (goSg t), 0) := by
        rw [hii, List.take_length] at hi0
        rw [trans, if_neg h1, hi0, if_neg (fun k => k rfl)]
      rw [hii, List.take_length] at hout
      rw [htr, ← hout]
      exact LE_tup2 .refl .refl
end Go.Gs
/- The law of translated paths. -/
namespace Go.Gs
open Go.Proofs

/-- The translation by 'x', 'y'. -/
def tr (x y : Int) : AF := afQ ((1 : Int) : Rat) ((0 : Int) : Rat) ((0 : Int) : Rat) ((1 : Int) : Rat) (x : Rat) (y : Rat)
def sh (x y : Int) (p : Pt) : Pt := ⟨p.x + x, p.y + y⟩
theorem goP_tr (x y : Int) (p : Pt) : goP (tr x y) p = sh x y p := by
  have h : ∀ a : Int, ((a : Rat) + Rat.divInt 1 2).floor = a := fun a => by
    rw [Rat.add_comm, Rat.floor_add_intCast, show (Rat.divInt 1 2).floor = 0 by decide +kernel, Int.zero_add]
  have e1 : applX (tr x y) p.x p.y = ((p.x + x : Int) : Rat) := by
    unfold applX tr afQ
    simp only [ofQ_v]
    rw [Rat.intCast_add, show ((1 : Int) : Rat) = 1 from rfl, show ((0 : Int) : Rat) = 0 from rfl, Rat.one_mul, Rat.zero_mul, Rat.add_zero]
  have e2 : applY (tr x y) p.x p.y = ((p.y + y : Int) : Rat) := by
    unfold applY tr afQ
    simp only [ofQ_v]
    rw [Rat.intCast_add, show ((1 : Int) : Rat) = 1 from rfl, show ((0 : Int) : Rat) = 0 from rfl, Rat.one_mul, Rat.zero_mul, Rat.zero_add]
  unfold goP
  rw [e1, e2, h, h]
  rfl
theorem qbits_int {n : Int} (h : R64 n) : qbits (n : Rat) ≤ 256 := by
  unfold qbits
  rw [Rat.num_intCast, Rat.den_intCast]
  have h1 : nbits 1 = 1 := by decide +kernel
  have h2 : nbits n.natAbs ≤ 64 := by
    by_cases h0 : n.natAbs = 0
    · rw [h0]; decide
    · have := nbits_ge h0
      unfold R64 at h
      refine Nat.le_of_not_lt fun k => ?_
      have : 2 ^ 64 ≤ 2 ^ (nbits n.natAbs - 1) := Nat.pow_le_pow_right (by decide) (by omega)
      omega
  omega
theorem tr_ok {x y : Int} (hx : R64 x) (hy : R64 y) : (tr x y).ok := by
  have a := qbits_int (show R64 1 by decide)
  have b := qbits_int (show R64 0 by decide)
  have c := qbits_int hx
  have d := qbits_int hy
  unfold AF.ok
  simp only [okI, AF.nth, tr, afQ, ofQ_v, true_and]
  exact ⟨⟨⟨⟨⟨a, b⟩, b⟩, a⟩, c⟩, d⟩
theorem tr_le {x y : Int} (hx : R64 x) (hy : R64 y) : (tr x y).le 100000 := by
  have k : ∀ n : Int, R64 n → (ofQ (n : Rat)).len ≤ 100000 := fun n h => by
    have h1 := qlen_int n
    have h2 := zlen_i64 h
    rw [ofQ_len]; omega
  exact ⟨k 1 (by decide), k 0 (by decide), k 0 (by decide), k 1 (by decide), k x hx, k y hy⟩
theorem appl_tr {x y : Int} (hx : R64 x) (hy : R64 y) {p : Pt} (hp : ptOK p) : appl (tr x y) p = if ptOK (sh x y p) then (sh x y p, 0) else (zp, 6) := by
  unfold appl
  rw [if_neg (fun h => h (tr_ok hx hy)), if_neg (fun h => h hp), goP_tr]
theorem ptErr_tr {x y : Int} (hx : R64 x) (hy : R64 y) : ∀ {q : List Pt}, (∀ p ∈ q, ptOK p) → (ptErr (tr x y) q = 0 ∧ ∀ p ∈ q, ptOK (sh x y p)) ∨ ptErr (tr x y) q = 6
  | [], _ => .inl ⟨rfl, fun p h => by cases h⟩
  | p :: r, h => by
    have hp := appl_tr hx hy (h p (.head _))
    unfold ptErr
    by_cases k : ptOK (sh x y p)
    · rw [hp, if_pos k, if_neg (fun h => h rfl)]
      rcases ptErr_tr hx hy (fun p h' => h p (.tail _ h')) with ⟨e, a⟩ | e
      · refine .inl ⟨e, fun q hq => ?_⟩
        rcases List.mem_cons.1 hq with rfl | hq
        · exact k
        · exact a q hq
      · exact .inr e
    · rw [hp, if_neg k, if_pos (by decide)]; exact .inr rfl
theorem goSg_tr {x y : Int} (hx : R64 x) (hy : R64 y) {s : Sg} (hf : fits s) (h : ∀ p ∈ ptsOf s, ptOK p) (h' : ∀ p ∈ ptsOf s, ptOK (sh x y p)) : goSg (tr x y) s = flipS (sh x y) s := by
  have e : (ptsOf s).map (fun p => (appl (tr x y) p).1) = (ptsOf s).map (sh x y) := List.map_congr_left fun p hp => by rw [appl_tr hx hy (h p hp), if_pos (h' p hp)]
  unfold goSg
  rw [e]
  obtain ⟨f1, f2, f3⟩ := hf
  have hr := nm_range s.v
  have k : nm s.v ≤ 0 ∨ nm s.v = 1 ∨ nm s.v = 2 ∨ nm s.v = 3 := by omega
  unfold ptsOf flipS withS part
  rcases k with k | k | k | k
  · rw [show (nm s.v).toNat = 0 by omega, f1.2 (by omega), f2.2 (by omega), f3.2 (by omega)]; rfl
  · rw [show (nm s.v).toNat = 1 by omega, f2.2 (by omega), f3.2 (by omega)]; rfl
  · rw [show (nm s.v).toNat = 2 by omega, f3.2 (by omega)]; rfl
  · rw [show (nm s.v).toNat = 3 by omega]; rfl
theorem mem_fits : ∀ {l : List Sg} {last : Int}, oks last l → ∀ s ∈ l, fits s
  | [], _, _, s, hs => by cases hs
  | a :: r, last, h, s, hs => by
    rcases List.mem_cons.1 hs with rfl | hs
    · exact (errAt_zero.1 h.1).2.2
    · exact mem_fits h.2 s hs
def shL (x y : Int) (l : List Sg) : List Sg := l.map (flipS (sh x y))
theorem trans_tr {x y : Int} (hx : R64 x) (hy : R64 y) {l : List Sg} (h : valid l) : (trans (tr x y) l = (shL x y l, 0) ∧ ∀ p ∈ allPts l, ptOK (sh x y p)) ∨ trans (tr x y) l = ([], 6) := by
  have ho := (valid_iff.1 h).2
  have hp := pts_ok h
  unfold trans
  rw [if_neg (fun k => k h)]
  rcases ptErr_tr hx hy hp with ⟨e, a⟩ | e
  · rw [e, if_neg (fun k => k rfl)]
    refine .inl ⟨?_, a⟩
    have : l.map (goSg (tr x y)) = shL x y l := List.map_congr_left fun s hs => goSg_tr hx hy (mem_fits ho s hs) (fun p k => hp p (List.mem_flatMap.2 ⟨s, hs, k⟩)) (fun p k => a p (List.mem_flatMap.2 ⟨s, hs, k⟩))
    rw [this]
  · rw [e, if_pos (by decide)]; exact .inr rfl
theorem ptErr_ok {x y : Int} (hx : R64 x) (hy : R64 y) : ∀ {q : List Pt}, (∀ p ∈ q, ptOK p) → (∀ p ∈ q, ptOK (sh x y p)) → ptErr (tr x y) q = 0
  | [], _, _ => rfl
  | p :: r, h, k => by
    have hp := appl_tr hx hy (h p (.head _))
    unfold ptErr
    rw [hp, if_pos (k p (.head _)), if_neg (fun h => h rfl)]
    exact ptErr_ok hx hy (fun p h' => h p (.tail _ h')) (fun p h' => k p (.tail _ h'))
theorem trans_ok {x y : Int} (hx : R64 x) (hy : R64 y) {l : List Sg} (h : valid l) (a : ∀ p ∈ allPts l, ptOK (sh x y p)) : trans (tr x y) l = (shL x y l, 0) := by
  rcases trans_tr hx hy h with ⟨e, _⟩ | e
  · exact e
  · have := ptErr_ok hx hy (pts_ok h) a
    unfold trans at e
    rw [if_neg (fun k => k h), this, if_neg (fun k => k rfl)] at e
    exact absurd (Prod.mk.inj e).2 (by decide)
theorem sh_sh (x y x' y' : Int) (p : Pt) : sh x' y' (sh x y p) = sh (x + x') (y + y') p := pt_ext (Int.add_assoc _ _ _) (Int.add_assoc _ _ _)
theorem sh_zero (p : Pt) : sh 0 0 p = p := pt_ext (Int.add_zero _) (Int.add_zero _)
theorem shL_shL (x y x' y' : Int) (l : List Sg) : shL x' y' (shL x y l) = shL (x + x') (y + y') l := by
  unfold shL
  rw [List.map_map]
  refine List.map_congr_left fun s _ => ?_
  obtain ⟨v, a, c, d⟩ := s
  show flipS (sh x' y') (flipS (sh x y) ⟨v, a, c, d⟩) = _
  unfold flipS part
  dsimp only
  congr 1 <;> (split <;> simp_all [sh_sh])
theorem shL_zero (l : List Sg) : shL 0 0 l = l := by
  unfold shL
  conv => rhs; rw [← List.map_id l]
  refine List.map_congr_left fun s _ => ?_
  obtain ⟨v, a, c, d⟩ := s
  unfold flipS part
  dsimp only [id]
  congr 1 <;> (split <;> simp_all [sh_zero])
theorem shL_valid {x y : Int} {l : List Sg} (h : valid l) (a : ∀ p ∈ allPts l, ptOK (sh x y p)) : valid (shL x y l) := by
  refine valid_iff.2 ⟨by unfold shL; rw [List.length_map]; exact valid_len h, ?_⟩
  exact map_oks (fun s hs p hp => a p (List.mem_flatMap.2 ⟨s, hs, hp⟩)) (valid_iff.1 h).2
theorem shL_pts (x y : Int) (l : List Sg) : allPts (shL x y l) = (allPts l).map (sh x y) := map_pts _ l
theorem bnd_sh {x y : Int} {q : List Pt} (h : q ≠ []) : bnd mnP (q.map (sh x y)) = sh x y (bnd mnP q) ∧ bnd mxP (q.map (sh x y)) = sh x y (bnd mxP q) := by
  obtain ⟨⟨p1, i1, e1⟩, ⟨p2, i2, e2⟩, ⟨p3, i3, e3⟩, ⟨p4, i4, e4⟩⟩ := bnd_hit h
  have low := fun p hp => bnd_in (q := q) (p := p) hp
  generalize bnd mnP q = lo at *
  generalize bnd mxP q = hi at *
  have h' : q.map (sh x y) ≠ [] := by simpa using h
  obtain ⟨⟨r1, j1, f1⟩, ⟨r2, j2, f2⟩, ⟨r3, j3, f3⟩, ⟨r4, j4, f4⟩⟩ := bnd_hit h'
  have low' : ∀ p ∈ q, ((bnd mnP (q.map (sh x y))).x ≤ (sh x y p).x ∧ (bnd mnP (q.map (sh x y))).y ≤ (sh x y p).y) ∧ (sh x y p).x ≤ (bnd mxP (q.map (sh x y))).x ∧ (sh x y p).y ≤ (bnd mxP (q.map (sh x y))).y :=
    fun p hp => bnd_in (List.mem_map.2 ⟨p, hp, rfl⟩)
  generalize bnd mnP (q.map (sh x y)) = lo' at *
  generalize bnd mxP (q.map (sh x y)) = hi' at *
  obtain ⟨s1, k1, rfl⟩ := List.mem_map.1 j1
  obtain ⟨s2, k2, rfl⟩ := List.mem_map.1 j2
  obtain ⟨s3, k3, rfl⟩ := List.mem_map.1 j3
  obtain ⟨s4, k4, rfl⟩ := List.mem_map.1 j4
  have a1 := low s1 k1
  have a2 := low s2 k2
  have a3 := low s3 k3
  have a4 := low s4 k4
  have b1 := low' p1 i1
  have b2 := low' p2 i2
  have b3 := low' p3 i3
  have b4 := low' p4 i4
  have ex : ∀ p, (sh x y p).x = p.x + x := fun _ => rfl
  have ey : ∀ p, (sh x y p).y = p.y + y := fun _ => rfl
  rw [ex] at f1 f3 b1 b2 b3 b4
  rw [ey] at f2 f4 b1 b2 b3 b4
  refine ⟨pt_ext ?_ ?_, pt_ext ?_ ?_⟩ <;> (first | rw [ex] | rw [ey]) <;> omega

theorem r3_fromint (n : Int) (hn : R64 n) : CallsG Try.prog 39 [i64 n] [] (.agg (brE (ofQ (n : Rat)))) [] := by
  refine calls_to tok mix Try.func39 rfl rfl rfl ?_
  refine CallV.to _ (r2_fromint n hn) rfl ?_
  refine CallV.to _ (r2_fromint 1 (by decide)) rfl ?_
  have e : ofQ (n : Rat) = ⟨ofZ n, ofZ 1⟩ := by unfold ofQ; rw [Rat.num_intCast, Rat.den_intCast]; rfl
  rw [e]
  exact .refl

theorem mkT (a b : Int) (ha : R64 a) (hb : R64 b) : CallsG Try.prog 38 [.agg (brE (ofQ (a : Rat))), .agg (brE (ofQ (b : Rat)))] [] (.agg (afE (tr a b))) [] := by
  have ln : ∀ n : Int, R64 n → (ofQ (n : Rat)).len ≤ 400000000 := fun n h => by
    have h1 := qlen_int n
    have h2 := zlen_i64 h
    rw [ofQ_len]; omega
  have := a_translate (ofQ (a : Rat)) (ofQ (b : Rat)) (ln a ha) (ln b hb)
  rw [ofQ_v, ofQ_v] at this
  exact this

set_option maxRecDepth 100000 in
set_option maxHeartbeats 4000000 in
theorem walkTr (l M : List Sg) (x y : Int) (hx : -32768 ≤ x ∧ x ≤ 32767) (hy : -32768 ≤ y ∧ y ≤ 32767) (hv : valid l)
    (same : CallsG Try.prog 36 [.sl sgE l, .agg (afE (tr 0 0))] [] (.tup [.sl sgE l, i64 0]) [])
    (go : CallsG Try.prog 36 [.sl sgE l, .agg (afE (tr x y))] [] (.tup [.sl sgE M, i64 0]) [])
    (back : CallsG Try.prog 36 [.sl sgE M, .agg (afE (tr (-x) (-y)))] [] (.tup [.sl sgE l, i64 0]) [])
    (a b c d : Pt) (p : Prop) (hp : Decidable p) (hc : p → c = sh x y a) (hd : p → d = sh x y b) (oa : p → ptOK a) (ob : p → ptOK b)
    (bl1 : CallsG Try.prog 14 [.sl sgE l] [] (.tup [.agg (ptE a), .agg (ptE b), .pr p hp]) [])
    (bm : CallsG Try.prog 14 [.sl sgE M] [] (.tup [.agg (ptE c), .agg (ptE d), .pr p hp]) []) :
    CallsG Try.prog 11 [.sl sgE l, .val (.int .i16 x), .val (.int .i16 y)] [] (bl true) [] := by
  have rx : R64 x := by unfold R64; omega
  have ry : R64 y := by unfold R64; omega
  have sx : R64 (-x) := by unfold R64; omega
  have sy : R64 (-y) := by unfold R64; omega
  have idt : CallsG Try.prog 37 [] [] (.agg (afE (tr 0 0))) [] := a_identity
  refine calls_to tok mix Try.func11 rfl rfl rfl ?_
  refine CallV.to _ (c_few l) rfl ?_
  refine Br.mk (fun _ => CallV.to _ c_example rfl .refl) (fun _ => ?_)
  refine CallV.to _ (c_valid l) rfl ?_
  refine Br.mk (fun k => absurd hv k) (fun _ => ?_)
  refine CallV.to _ idt rfl ?_
  refine CallV.to _ same rfl ?_
  refine Ar.fit (by omega) ?_
  refine CallV.to _ (r3_fromint x rx) rfl ?_
  refine Ar.fit (by omega) ?_
  refine CallV.to _ (r3_fromint y ry) rfl ?_
  refine CallV.to _ (mkT x y rx ry) rfl ?_
  refine CallV.to _ go rfl ?_
  refine Br.mk (fun k => absurd rfl k) (fun _ => ?_)
  refine CallV.to _ (c_equal l l) rfl ?_
  refine Br.mk (fun k => absurd rfl k) (fun _ => ?_)
  refine Br.mk (fun k => absurd rfl k) (fun _ => ?_)
  refine CallV.to _ bl1 rfl ?_
  refine CallV.to _ bm rfl ?_
  refine Ar.fit (by omega) ?_
  refine Ar.fit (by omega) ?_
  refine CallV.to _ (r3_fromint (-x) sx) rfl ?_
  refine Ar.fit (by omega) ?_
  refine Ar.fit (by omega) ?_
  refine CallV.to _ (r3_fromint (-y) sy) rfl ?_
  refine CallV.to _ (mkT (-x) (-y) sx sy) rfl ?_
  refine CallV.to _ back rfl ?_
  refine Br.mk (fun hq => ?_) (fun hq => ?_)
  · have oa := oa hq
    have ob := ob hq
    have hc := hc hq
    have hd := hd hq
    unfold ptOK at oa ob
    subst hc hd
    refine Ar.fit (by omega) ?_
    refine Ar.fit (by omega) ?_
    refine Br.mk (fun k => absurd rfl k) (fun _ => ?_)
    refine Ar.fit (by omega) ?_
    refine Ar.fit (by omega) ?_
    refine Br.mk (fun k => absurd rfl k) (fun _ => ?_)
    refine Ar.fit (by omega) ?_
    refine Ar.fit (by omega) ?_
    refine Br.mk (fun k => absurd rfl k) (fun _ => ?_)
    refine Ar.fit (by omega) ?_
    refine Ar.fit (by omega) ?_
    refine Br.mk (fun k => absurd rfl k) (fun _ => ?_)
    refine Br.mk (fun _ => ?_) (fun k => absurd Iff.rfl k)
    refine Br.mk (fun _ => ?_) (fun k => absurd rfl k)
    refine CallV.to _ (c_equal l l) rfl ?_
    refine Br.mk (fun _ => ?_) (fun k => absurd rfl k)
    refine CallV.to _ c_example rfl ?_
    exact .refl
  · refine Br.mk (fun _ => ?_) (fun k => absurd Iff.rfl k)
    refine Br.mk (fun _ => ?_) (fun k => absurd rfl k)
    refine CallV.to _ (c_equal l l) rfl ?_
    refine Br.mk (fun _ => ?_) (fun k => absurd rfl k)
    refine CallV.to _ c_example rfl ?_
    exact .refl

set_option maxRecDepth 100000 in
set_option maxHeartbeats 4000000 in
theorem walkOut (l : List Sg) (x y : Int) (hx : -32768 ≤ x ∧ x ≤ 32767) (hy : -32768 ≤ y ∧ y ≤ 32767)
    (same : valid l → CallsG Try.prog 36 [.sl sgE l, .agg (afE (tr 0 0))] [] (.tup [.sl sgE l, i64 0]) [])
    (go : valid l → CallsG Try.prog 36 [.sl sgE l, .agg (afE (tr x y))] [] (.tup [.sl sgE ([] : List Sg), i64 6]) []) :
    CallsG Try.prog 11 [.sl sgE l, .val (.int .i16 x), .val (.int .i16 y)] [] (bl true) [] := by
  have rx : R64 x := by unfold R64; omega
  have ry : R64 y := by unfold R64; omega
  have idt : CallsG Try.prog 37 [] [] (.agg (afE (tr 0 0))) [] := a_identity
  refine calls_to tok mix Try.func11 rfl rfl rfl ?_
  refine CallV.to _ (c_few l) rfl ?_
  refine Br.mk (fun _ => CallV.to _ c_example rfl .refl) (fun _ => ?_)
  refine CallV.to _ (c_valid l) rfl ?_
  refine Br.mk (fun k => CallV.to _ c_example rfl .refl) (fun hv => ?_)
  have hv : valid l := Decidable.not_not.1 hv
  refine CallV.to _ idt rfl ?_
  refine CallV.to _ (same hv) rfl ?_
  refine Ar.fit (by omega) ?_
  refine CallV.to _ (r3_fromint x rx) rfl ?_
  refine Ar.fit (by omega) ?_
  refine CallV.to _ (r3_fromint y ry) rfl ?_
  refine CallV.to _ (mkT x y rx ry) rfl ?_
  refine CallV.to _ (go hv) rfl ?_
  refine Br.mk (fun k => absurd rfl k) (fun _ => ?_)
  refine CallV.to _ (c_equal l l) rfl ?_
  refine Br.mk (fun k => absurd rfl k) (fun _ => ?_)
  refine Br.mk (fun _ => ?_) (fun k => absurd (by decide) k)
  refine Br.mk (fun _ => ?_) (fun k => absurd rfl k)
  intro _
  refine Br.mk (fun _ => ?_) (fun k => absurd rfl k)
  refine CallV.to _ c_example rfl ?_
  exact .refl

theorem c_lawTranslation (l : List Sg) (x y : Int) (hx : -32768 ≤ x ∧ x ≤ 32767) (hy : -32768 ≤ y ∧ y ≤ 32767) :
    CallsG Try.prog 11 [.sl sgE l, .val (.int .i16 x), .val (.int .i16 y)] [] (bl true) [] := by
  have rx : R64 x := by unfold R64; omega
  have ry : R64 y := by unfold R64; omega
  have sx : R64 (-x) := by unfold R64; omega
  have sy : R64 (-y) := by unfold R64; omega
  have r0 : R64 0 := by decide
  have same : valid l → CallsG Try.prog 36 [.sl sgE l, .agg (afE (tr 0 0))] [] (.tup [.sl sgE l, i64 0]) [] := fun h => by
    have := c_trans l (tr 0 0) (tr_le r0 r0) (Nat.le_trans (valid_len h) (by decide))
    rw [trans_ok r0 r0 h (fun p hp => by rw [sh_zero]; exact pts_ok h p hp), shL_zero] at this
    exact this
  by_cases h : valid l
  · have tl := c_trans l (tr x y) (tr_le rx ry) (Nat.le_trans (valid_len h) (by decide))
    rcases trans_tr rx ry h with ⟨e, a⟩ | e
    · rw [e] at tl
      have hv := shL_valid h a
      have tb := c_trans (shL x y l) (tr (-x) (-y)) (tr_le sx sy) (Nat.le_trans (valid_len hv) (by decide))
      have bb : trans (tr (-x) (-y)) (shL x y l) = (l, 0) := by
        rw [trans_ok sx sy hv (fun p hp => ?_), shL_shL, Int.add_right_neg, Int.add_right_neg, shL_zero]
        rw [shL_pts] at hp
        obtain ⟨q, hq, rfl⟩ := List.mem_map.1 hp
        rw [sh_sh, Int.add_right_neg, Int.add_right_neg, sh_zero]
        exact pts_ok h q hq
      rw [bb] at tb
      have so : some? (shL x y l) ↔ some? l := by
        unfold some?
        rw [shL_pts]
        simp [h, hv]
      have bm : CallsG Try.prog 14 [.sl sgE (shL x y l)] [] (.tup [.agg (ptE (loOf (shL x y l))), .agg (ptE (hiOf (shL x y l))), pr (some? l)]) [] := by
        have := c_bounds (shL x y l)
        unfold bndR at this
        exact this.le (LE_tup (.cons .refl (.cons .refl (.cons (LE_pr so) .nil))))
      refine walkTr l _ x y hx hy h (same h) tl tb _ _ _ _ _ _ (fun k => ?_) (fun k => ?_) (fun k => ?_) (fun k => ?_) (c_bounds l) bm
      · unfold loOf; rw [if_pos h, if_pos hv, shL_pts, (bnd_sh k.2).1]
      · unfold hiOf; rw [if_pos h, if_pos hv, shL_pts, (bnd_sh k.2).2]
      · unfold loOf; rw [if_pos h]; exact bnd_ok (fun _ _ => mn_ok) (pts_ok h)
      · unfold hiOf; rw [if_pos h]; exact bnd_ok (fun _ _ => mx_ok) (pts_ok h)
    · rw [e] at tl
      exact walkOut l x y hx hy same (fun _ => tl)
  · exact walkOut l x y hx hy same (fun k => absurd k h)

end Go.Gs
