/- The other text's transforms: equality, determinant, composition. -/
import Derived.Test.YtoggmkhegbfjfaaGreatMAP
import Derived.Test.YtoggmkhegbfjfaaGreatMAN
import Derived.Test.YtoggmkhegbfjfaaGreatMAK
namespace Go.Gs
open Go.Proofs

theorem bi_eq {a b : BI} {i : Nat} (h1 : a.neg = true ↔ b.neg = true) (hl : a.mag.length = b.mag.length) (hi : ¬ i < a.mag.length) (h : ∀ j, j < i → a.mag[j]? = b.mag[j]?) : a = b := by
  obtain ⟨n, m⟩ := a
  obtain ⟨n', m'⟩ := b
  have e1 : n = n' := Bool.eq_iff_iff.2 h1
  have e2 : m = m' := List.ext_getElem? fun j => by
    by_cases hj : j < i
    · exact h j hj
    · dsimp only at hl hi; rw [List.getElem?_eq_none (by omega), List.getElem?_eq_none (by omega)]
  subst e1 e2; rfl

set_option maxRecDepth 100000 in
theorem r3_sameint (a b : BI) (ha : a.mag.length ≤ 100000000) : CallsG Tryz.prog 315 [.agg (biE a), .agg (biE b)] [] (pr (a = b)) [] := by
  refine calls_to tok mix Tryz.func315 rfl rfl rfl ?_
  refine Br.mk (fun h1 => LE_false fun e => h1 (by rw [e])) (fun h1 => ?_)
  have h1 := Decidable.not_not.1 h1
  intro hl1 hl2
  refine Br.mk (fun h2 => LE_false fun e => h2 (by rw [e])) (fun h2 => ?_)
  have h2 := Decidable.not_not.1 h2
  refine ⟨Nat, fun i => ⟨[(5, i64 i), (3, .loc 1 0), (2, .loc 0 0)], [(1, .box 39 (biE b)), (0, .box 39 (biE a))], 2, 38, 0⟩, fun i => i ≤ a.mag.length ∧ ∀ j, j < i → a.mag[j]? = b.mag[j]?, fun i => a.mag.length - i, 0, ⟨Nat.zero_le _, fun j h => by omega⟩, ?_, ?_⟩
  · exact sub_of [(0, some 0), (1, some 1)] rfl rfl rfl ⟨rfl, rfl, rfl, trivial⟩ ⟨rfl, rfl, trivial⟩
  rintro i ⟨hi, hs⟩
  intro hl3
  refine Br.mk (fun h3 => ?_) (fun h3 => LE_true (bi_eq h1 (by omega) (by omega) hs))
  refine Dr.mk (by decide +kernel) ?_
  refine Ob.mk (by omega) ?_
  intro x hx
  have hx : a.mag[i]? = some x := hx
  refine Ob.mk (by omega) ?_
  intro y hy
  have hy : b.mag[i]? = some y := hy
  refine Br.mk (fun h4 => LE_false fun e => ?_) (fun h4 => ?_)
  · subst e; rw [hx] at hy; cases hy; exact h4 rfl
  · have h4 := Decidable.not_not.1 h4
    have exy : x = y := Fin.ext (by omega)
    refine Ar.fit (by omega) ?_
    refine ⟨i + 1, ⟨by omega, fun j hj => ?_⟩, sub_of [(0, some 0), (1, some 1)] rfl rfl rfl ⟨rfl, rfl, rfl, trivial⟩ ⟨rfl, rfl, trivial⟩, by dsimp only; omega⟩
    by_cases e : j = i
    · subst e; rw [hx, hy, exy]
    · exact hs j (by omega)

theorem r3_same (a b : BR) (ha : a.len ≤ 100000000) : CallsG Tryz.prog 314 [.agg (brE a), .agg (brE b)] [] (pr (a = b)) [] := by
  have h1 : a.num.mag.length ≤ a.len := Nat.le_max_left _ _
  have h2 : a.den.mag.length ≤ a.len := Nat.le_max_right _ _
  refine calls_to tok mix Tryz.func314 rfl rfl rfl ?_
  refine CallV.to _ (r3_sameint a.num b.num (by omega)) rfl ?_
  refine Br.mk (fun e1 => ?_) (fun e1 => LE_false fun e => e1 (by rw [e]))
  refine CallV.to _ (r3_sameint a.den b.den (by omega)) rfl ?_
  refine LE_pr ⟨fun e2 => ?_, fun e => by rw [e]⟩
  cases a; cases b; simp_all

theorem r3_sameall (xs ys : List BR) (hx : ∀ x ∈ xs, x.len ≤ 100000000) : CallsG Tryz.prog 313 [.sl brE xs, .sl brE ys] [] (pr (xs = ys)) [] := by
  refine calls_to tok mix Tryz.func313 rfl rfl rfl ?_
  intro hl1 hl2
  refine Br.mk (fun h1 => LE_false fun e => h1 (by rw [e])) (fun h1 => ?_)
  have h1 := Decidable.not_not.1 h1
  refine ⟨Nat, fun i => ⟨[(5, i64 i), (0, .sl brE xs), (1, .sl brE ys)], [], 0, 27, 0⟩, fun i => i ≤ xs.length ∧ ∀ j, j < i → xs[j]? = ys[j]?, fun i => xs.length - i, 0, ⟨Nat.zero_le _, fun j h => by omega⟩, ?_, ?_⟩
  · exact sub_of [] rfl rfl rfl ⟨rfl, rfl, rfl, trivial⟩ trivial
  rintro i ⟨hi, hs⟩
  intro hl3
  refine Br.mk (fun h3 => ?_) (fun h3 => ?_)
  · refine Dr.mk (by decide +kernel) ?_
    refine Ob.mk (by omega) ?_
    intro x hx1
    have hx1 : xs[i]? = some x := hx1
    refine Ob.mk (by omega) ?_
    intro y hy
    have hy : ys[i]? = some y := hy
    refine CallV.to _ (r3_same x y (hx x (List.mem_of_getElem? hx1))) rfl ?_
    refine Br.mk (fun h4 => LE_false fun e => ?_) (fun h4 => ?_)
    · subst e; rw [hx1] at hy; cases hy; exact h4 rfl
    · have exy := Decidable.not_not.1 h4
      refine Ar.fit (by omega) ?_
      refine ⟨i + 1, ⟨by omega, fun j hj => ?_⟩, sub_of [] rfl rfl rfl ⟨rfl, rfl, rfl, trivial⟩ trivial, by dsimp only; omega⟩
      by_cases e : j = i
      · subst e; rw [hx1, hy, exy]
      · exact hs j (by omega)
  · refine LE_true (List.ext_getElem? fun j => ?_)
    by_cases hj : j < i
    · exact hs j hj
    · rw [List.getElem?_eq_none (by omega), List.getElem?_eq_none (by omega)]

theorem ofQ_inj {x y : Rat} (h : ofQ x = ofQ y) : x = y := by rw [← ofQ_v x, ← ofQ_v y, h]
theorem coefs_len {t : AF} {n : Nat} (h : t.le n) : ∀ x ∈ coefs t, x.len ≤ n := fun x hx => by
  obtain ⟨h1, h2, h3, h4, h5, h6⟩ := h
  simp only [coefs, List.mem_cons, List.not_mem_nil, or_false] at hx
  rcases hx with rfl | rfl | rfl | rfl | rfl | rfl <;> assumption
set_option maxRecDepth 100000 in
theorem r12_fields (t u : AF) (ht : t.le 100000000) : CallsG Tryz.prog 310 [.agg (afE t), .agg (afE u)] [] (pr (coefs t = coefs u)) [] := by
  refine calls_to tok mix Tryz.func310 rfl rfl rfl ?_
  refine Dr.mk (by decide +kernel) ?_
  refine CallV.to _ (r12_coefs t) rfl ?_
  refine CallV.to _ (r12_coefs u) rfl ?_
  refine CallV.to _ (r3_sameall (coefs t) (coefs u) (coefs_len ht)) rfl ?_
  exact LE_pr Iff.rfl
set_option maxRecDepth 100000 in
set_option maxHeartbeats 1000000 in
theorem r12_normalize (t : AF) (ht : t.le 100000000) : CallsG Tryz.prog 311 [.agg (afE t)] [] (.agg (afE t.nrm)) [] := by
  obtain ⟨ha, hb, hc, hd, he, hf⟩ := ht
  refine calls_to tok mix Tryz.func311 rfl rfl rfl ?_
  refine Dr.mk (by decide +kernel) ?_
  refine CallV.to _ (r3_normalize t.a (by omega)) rfl ?_
  refine CallV.to _ (r3_normalize t.b (by omega)) rfl ?_
  refine CallV.to _ (r3_normalize t.c (by omega)) rfl ?_
  refine CallV.to _ (r3_normalize t.d (by omega)) rfl ?_
  refine CallV.to _ (r3_normalize t.e (by omega)) rfl ?_
  refine CallV.to _ (r3_normalize t.f (by omega)) rfl ?_
  exact .refl
theorem same_iff {t u : AF} : coefs t.nrm = coefs u.nrm ↔ t.same u := by
  constructor
  · intro h
    simp only [coefs, AF.nrm, List.cons.injEq, and_true] at h
    exact ⟨ofQ_inj h.1, ofQ_inj h.2.1, ofQ_inj h.2.2.1, ofQ_inj h.2.2.2.1, ofQ_inj h.2.2.2.2.1, ofQ_inj h.2.2.2.2.2⟩
  · rintro ⟨h1, h2, h3, h4, h5, h6⟩
    simp only [coefs, AF.nrm, h1, h2, h3, h4, h5, h6]
set_option maxRecDepth 100000 in
theorem r12_equal (t u : AF) (ht : t.le 10000000) (hu : u.le 10000000) : CallsG Tryz.prog 307 [.agg (afE t), .agg (afE u)] [] (pr (t.same u)) [] := by
  have hn := AF.le_len ht
  obtain ⟨ha, hb, hc, hd, he, hf⟩ := ht
  obtain ⟨ka, kb, kc, kd, ke, kf⟩ := hu
  obtain ⟨na, nb, nc, nd, ne, nf⟩ := hn
  refine calls_to tok mix Tryz.func307 rfl rfl rfl ?_
  refine Dr.mk (by decide +kernel) ?_
  refine CallV.to _ (r12_normalize t ⟨by omega, by omega, by omega, by omega, by omega, by omega⟩) rfl ?_
  refine CallV.to _ (r12_normalize u ⟨by omega, by omega, by omega, by omega, by omega, by omega⟩) rfl ?_
  refine CallV.to _ (r12_fields t.nrm u.nrm ⟨by omega, by omega, by omega, by omega, by omega, by omega⟩) rfl ?_
  exact LE_pr same_iff

theorem r12_det (t : AF) (ht : t.le 10000000) : CallsG Tryz.prog 202 [.agg (afE t)] [] (.agg (brE (ofQ (detQ t)))) [] := by
  obtain ⟨ha, hb, hc, hd, he, hf⟩ := ht
  have l1 := qlen_v t.a
  have l2 := qlen_v t.b
  have l3 := qlen_v t.c
  have l4 := qlen_v t.d
  have m1 := qlen_mul t.a.v t.d.v
  have m2 := qlen_mul t.b.v t.c.v
  refine calls_to tok mix Tryz.func202 rfl rfl rfl ?_
  refine Dr.mk (by decide +kernel) ?_
  refine CallV.to _ (r3_mul t.a t.d (by omega) (by omega)) rfl ?_
  refine CallV.to _ (r3_mul t.b t.c (by omega) (by omega)) rfl ?_
  refine CallV.to _ (r3_sub (ofQ (t.a.v * t.d.v)) (ofQ (t.b.v * t.c.v)) (by rw [ofQ_len]; omega) (by rw [ofQ_len]; omega)) rfl ?_
  rw [ofQ_v, ofQ_v]
  exact .refl

theorem r3_quo (a b : BR) (ha : a.len ≤ 50000000) (hb : b.len ≤ 50000000) (h0 : b.v ≠ 0) : CallsG Tryz.prog 153 [.agg (brE a), .agg (brE b)] [] (.tup [.agg (brE (ofQ (a.v / b.v))), i64 0]) [] := by
  have h1 := qlen_v a
  have h2 := qlen_v b
  have h3 := ofQ_l a.v
  have h4 := ofQ_l b.v
  have n1 := qlen_num a.v
  have n2 := qlen_num b.v
  have d1 := qlen_den a.v
  have d2 := qlen_den b.v
  have m1 := zlen_mul a.v.num b.v.den
  have m3 := zlen_mul a.v.den b.v.num
  refine calls_to tok mix Tryz.func153 rfl rfl rfl ?_
  refine Dr.mk (by decide +kernel) ?_
  refine CallV.to _ (r3_normalize a (by omega)) rfl ?_
  refine CallV.to _ (r3_normalize b (by omega)) rfl ?_
  refine Dr.mk (by decide +kernel) ?_
  refine CallV.to _ (r2_mul (ofQ a.v).num (ofQ b.v).den (by omega) (by omega)) rfl ?_
  refine CallV.to _ (r2_mul (ofQ a.v).den (ofQ b.v).num (by omega) (by omega)) rfl ?_
  rw [ofQ_num, ofQ_num, ofQ_den, ofQ_den]
  refine CallV.to _ (r3_new (ofZ (a.v.num * b.v.den)) (ofZ (a.v.den * b.v.num)) (by rw [ofZ_len]; omega) (by rw [ofZ_len]; omega) (by
    rw [ofZ_v]; exact Int.mul_ne_zero (den_ne _) (fun h => h0 (Rat.num_eq_zero.1 h)))) rfl ?_
  rw [ofZ_v, ofZ_v, q_quo_eq]
  exact .refl

set_option maxRecDepth 100000 in
set_option maxHeartbeats 4000000 in
theorem r12_compose (t u : AF) (ht : t.le 1000000) (hu : u.le 1000000) : CallsG Tryz.prog 201 [.agg (afE t), .agg (afE u)] [] (.agg (afE (beh t u))) [] := by
  obtain ⟨ha, hb, hc, hd, he, hf⟩ := ht
  obtain ⟨ka, kb, kc, kd, ke, kf⟩ := hu
  have m5 := qlen_twos u.a t.e u.c t.f u.e ka he kc hf ke
  have m6 := qlen_twos u.b t.e u.d t.f u.f kb he kd hf kf
  refine calls_to tok mix Tryz.func201 rfl rfl rfl ?_
  refine Dr.mk (by decide +kernel) ?_
  refine CallV.to _ (r12_dot u.a t.a u.c t.b (by omega) (by omega) (by omega) (by omega)) rfl ?_
  refine CallV.to _ (r12_dot u.b t.a u.d t.b (by omega) (by omega) (by omega) (by omega)) rfl ?_
  refine CallV.to _ (r12_dot u.a t.c u.c t.d (by omega) (by omega) (by omega) (by omega)) rfl ?_
  refine CallV.to _ (r12_dot u.b t.c u.d t.d (by omega) (by omega) (by omega) (by omega)) rfl ?_
  refine CallV.to _ (r12_dot u.a t.e u.c t.f (by omega) (by omega) (by omega) (by omega)) rfl ?_
  refine CallV.to _ (r3_add (ofQ (u.a.v * t.e.v + u.c.v * t.f.v)) u.e (by rw [ofQ_len]; omega) (by omega)) rfl ?_
  refine CallV.to _ (r12_dot u.b t.e u.d t.f (by omega) (by omega) (by omega) (by omega)) rfl ?_
  refine CallV.to _ (r3_add (ofQ (u.b.v * t.e.v + u.d.v * t.f.v)) u.f (by rw [ofQ_len]; omega) (by omega)) rfl ?_
  rw [ofQ_v, ofQ_v]
  exact .refl

end Go.Gs
/- Transforms, both texts: two of them composed, and the inverse. -/
namespace Go.Gs
open Go.Proofs

def zBR : BR := ⟨⟨false, []⟩, ⟨false, []⟩⟩
def zeroAF : AF := ⟨zBR, zBR, zBR, zBR, zBR, zBR⟩
theorem zBR_v : zBR.v = 0 := by decide +kernel
theorem LE_zBR : LEs [bl false, .val (.slice none 0 0), bl false, .val (.slice none 0 0)] (brE zBR) :=
  .cons (LE_false (by decide)) (.cons LE_nil0 (.cons (LE_false (by decide)) (.cons LE_nil0 .nil)))
theorem LEs.append : ∀ {xs bs cs ds : List SV}, LEs xs bs → LEs cs ds → LEs (xs ++ cs) (bs ++ ds)
  | [], [], _, _, _, h => h
  | _ :: _, _ :: _, _, _, .cons h hs, k => .cons h (LEs.append hs k)
def z4 : List SV := [bl false, .val (.slice none 0 0), bl false, .val (.slice none 0 0)]
theorem LE_zero24 : LE (.agg zero24) (.agg (afE zeroAF)) := by
  have LE_zBR : LEs z4 (brE zBR) := LE_zBR
  have h : LE (.agg (z4 ++ (z4 ++ (z4 ++ (z4 ++ (z4 ++ z4)))))) (.agg (afE zeroAF)) := LE_agg (LEs.append LE_zBR (LEs.append LE_zBR (LEs.append LE_zBR (LEs.append LE_zBR (LEs.append LE_zBR LE_zBR)))))
  exact h
/-- The identity. -/
def idA : AF := afQ ((1 : Int) : Rat) ((0 : Int) : Rat) ((0 : Int) : Rat) ((1 : Int) : Rat) ((0 : Int) : Rat) ((0 : Int) : Rat)
theorem idA_le : idA.le 2 := ⟨by decide +kernel, by decide +kernel, by decide +kernel, by decide +kernel, by decide +kernel, by decide +kernel⟩
/-- First 'p', then 't', or the error. -/
def compR (p t : AF) : AF × Int :=
  if ¬ p.ok then (zeroAF, 5) else if ¬ t.ok then (zeroAF, 5) else if ¬ (beh idA p).ok then (zeroAF, 5) else if ¬ (beh (beh idA p) t).ok then (zeroAF, 5) else (beh (beh idA p) t, 0)
theorem beh_nrm (t u : AF) : (beh t u).nrm = beh t u := by
  unfold beh AF.nrm afQ; simp only [ofQ_v]
theorem beh_ok_le {t u : AF} (h : (beh t u).ok) : (beh t u).le 8 := by
  have := ok_le (t := beh t u) (by rw [beh_nrm]; exact h)
  rwa [beh_nrm] at this
theorem AF.le.up {t : AF} {n m : Nat} (h : t.le n) (k : n ≤ m) : t.le m := by
  obtain ⟨h1, h2, h3, h4, h5, h6⟩ := h
  exact ⟨by omega, by omega, by omega, by omega, by omega, by omega⟩

set_option maxRecDepth 100000 in
set_option maxHeartbeats 4000000 in
theorem a_compose (p t : AF) (hp : p.le 100) (ht : t.le 100) : CallsG Tryz.prog 88 [.sl afE [p, t]] [] (.tup [.agg (afE (compR p t).1), i64 (compR p t).2]) [] := by
  have bad : compR p t = (zeroAF, 5) → LE (.tup [.agg zero24, i64 5]) (.tup [.agg (afE (compR p t).1), i64 (compR p t).2]) := fun h => by
    rw [h]; exact LE_tup2 LE_zero24 .refl
  refine calls_to tok mix Tryz.func88 rfl rfl rfl ?_
  refine CallV.to _ a_identity rfl ?_
  intro _
  refine ⟨Nat, fun i => ⟨[(12, i64 i), (11, i64 2), (10, .sl afE [p, t]), (4, .loc 1 0), (2, .loc 0 0), (0, .sl afE [p, t])], [(1, .box 43 (afE idA)), (0, .box 43 zero24)], 2, 37, 0⟩,
    fun i => i ≤ 2 ∧ (1 ≤ i → p.ok) ∧ (2 ≤ i → t.ok), fun i => 2 - i, 0, ⟨by decide, fun h => by omega, fun h => by omega⟩, ?_, ?_⟩
  · exact sub_of [(0, some 0), (1, some 1)] rfl rfl rfl ⟨rfl, rfl, rfl, rfl, rfl, rfl, trivial⟩ ⟨rfl, rfl, trivial⟩
  rintro i ⟨hi, o1, o2⟩
  have hi : i = 0 ∨ i = 1 ∨ i = 2 := by omega
  rcases hi with rfl | rfl | rfl
  · refine Br.mk (fun _ => ?_) (fun h => absurd (by decide) h)
    refine Ob.mk ⟨by decide, by show (0 : Int) < 2; decide⟩ ?_
    intro x hx
    cases hx
    refine CallV.to _ (a_valid p (hp.up (by decide))) rfl ?_
    refine Br.mk (fun h => bad (if_pos h)) (fun h => ?_)
    refine Ar.fit (by decide) ?_
    exact ⟨1, ⟨by decide, fun _ => Decidable.not_not.1 h, fun h => by omega⟩, sub_of [(0, some 0), (1, some 1)] rfl rfl rfl ⟨rfl, rfl, rfl, rfl, rfl, rfl, trivial⟩ ⟨rfl, rfl, trivial⟩, by decide⟩
  · refine Br.mk (fun _ => ?_) (fun h => absurd (by decide) h)
    refine Ob.mk ⟨by decide, by show (1 : Int) < 2; decide⟩ ?_
    intro x hx
    cases hx
    have o1 := o1 (by decide)
    refine CallV.to _ (a_valid t (ht.up (by decide))) rfl ?_
    refine Br.mk (fun h => bad ((if_neg (fun k => k o1)).trans (if_pos h))) (fun h => ?_)
    refine Ar.fit (by decide) ?_
    exact ⟨2, ⟨by decide, fun _ => o1, fun _ => Decidable.not_not.1 h⟩, sub_of [(0, some 0), (1, some 1)] rfl rfl rfl ⟨rfl, rfl, rfl, rfl, rfl, rfl, trivial⟩ ⟨rfl, rfl, trivial⟩, by decide⟩
  refine Br.mk (fun h => absurd h (by decide)) (fun _ => ?_)
  have o1 := o1 (by decide)
  have o2 := o2 (by decide)
  intro _
  have e0 : compR p t = if ¬ (beh idA p).ok then (zeroAF, 5) else if ¬ (beh (beh idA p) t).ok then (zeroAF, 5) else (beh (beh idA p) t, 0) := (if_neg (fun k => k o1)).trans (if_neg (fun k => k o2))
  have l1 := beh_le (n := 100) (idA_le.up (by decide)) hp
  have stg : ∀ i : Nat, ∃ A : AF, A = if i = 0 then idA else if i = 1 then beh idA p else beh (beh idA p) t := fun i => ⟨_, rfl⟩
  refine ⟨Nat, fun i => ⟨[(23, i64 i), (22, i64 2), (21, .sl afE [p, t]), (4, .loc 1 0), (2, .loc 0 0)], [(1, .box 43 (afE (if i = 0 then idA else if i = 1 then beh idA p else beh (beh idA p) t))), (0, .box 43 zero24)], 2, 37, 0⟩,
    fun i => i ≤ 2 ∧ (1 ≤ i → (beh idA p).ok) ∧ (2 ≤ i → (beh (beh idA p) t).ok), fun i => 2 - i, 0, ⟨by decide, fun h => by omega, fun h => by omega⟩, ?_, ?_⟩
  · exact sub_of [(0, some 0), (1, some 1)] rfl rfl rfl ⟨rfl, rfl, rfl, rfl, rfl, trivial⟩ ⟨rfl, rfl, trivial⟩
  rintro i ⟨hi, s1, s2⟩
  have hi : i = 0 ∨ i = 1 ∨ i = 2 := by omega
  rcases hi with rfl | rfl | rfl
  · refine Br.mk (fun _ => ?_) (fun h => absurd (by decide) h)
    refine Ob.mk ⟨by decide, by show (0 : Int) < 2; decide⟩ ?_
    intro x hx
    cases hx
    refine CallV.to _ (a_behind idA p (idA_le.up (by decide)) (hp.up (by decide))) rfl ?_
    refine CallV.to _ (a_valid (beh idA p) (l1.up (by decide))) rfl ?_
    refine Br.mk (fun h => bad (e0.trans (if_pos h))) (fun h => ?_)
    refine Ar.fit (by decide) ?_
    exact ⟨1, ⟨by decide, fun _ => Decidable.not_not.1 h, fun h => by omega⟩, sub_of [(0, some 0), (1, some 1)] rfl rfl rfl ⟨rfl, rfl, rfl, rfl, rfl, trivial⟩ ⟨rfl, rfl, trivial⟩, by decide⟩
  · refine Br.mk (fun _ => ?_) (fun h => absurd (by decide) h)
    refine Ob.mk ⟨by decide, by show (1 : Int) < 2; decide⟩ ?_
    intro x hx
    cases hx
    have s1 := s1 (by decide)
    have l2 := beh_le (n := 100) ((beh_ok_le s1).up (by decide)) ht
    refine CallV.to _ (a_behind (beh idA p) t ((beh_ok_le s1).up (by decide)) (ht.up (by decide))) rfl ?_
    refine CallV.to _ (a_valid (beh (beh idA p) t) (l2.up (by decide))) rfl ?_
    refine Br.mk (fun h => bad (e0.trans ((if_neg (fun k => k s1)).trans (if_pos h)))) (fun h => ?_)
    refine Ar.fit (by decide) ?_
    exact ⟨2, ⟨by decide, fun _ => s1, fun _ => Decidable.not_not.1 h⟩, sub_of [(0, some 0), (1, some 1)] rfl rfl rfl ⟨rfl, rfl, rfl, rfl, rfl, trivial⟩ ⟨rfl, rfl, trivial⟩, by decide⟩
  refine Br.mk (fun h => absurd h (by decide)) (fun _ => ?_)
  have s1 := s1 (by decide)
  have s2 := s2 (by decide)
  refine CallV.to _ (a_normalize (beh (beh idA p) t) ((beh_ok_le s2).up (by decide))) rfl ?_
  rw [beh_nrm, e0.trans ((if_neg (fun k => k s1)).trans (if_neg (fun k => k s2)))]
  exact LE_tup2 .refl .refl

/-! The other text -/
set_option maxRecDepth 100000 in
set_option maxHeartbeats 4000000 in
theorem r12_fromints (a b c d : Int) (e f : BR) (ha : R64 a) (hb : R64 b) (hc : R64 c) (hd : R64 d) (he : e.len ≤ 100000000) (hf : f.len ≤ 100000000) :
    CallsG Tryz.prog 73 [i64 a, i64 b, i64 c, i64 d, .agg (brE e), .agg (brE f)] [] (.agg (afE (afQ a b c d e.v f.v))) [] := by
  refine calls_to tok mix Tryz.func73 rfl rfl rfl ?_
  refine Dr.mk (by decide +kernel) ?_
  refine CallV.to _ (r3_fromInt a ha) rfl ?_
  refine CallV.to _ (r3_fromInt b hb) rfl ?_
  refine CallV.to _ (r3_fromInt c hc) rfl ?_
  refine CallV.to _ (r3_fromInt d hd) rfl ?_
  refine CallV.to _ (r3_normalize e (by omega)) rfl ?_
  refine CallV.to _ (r3_normalize f (by omega)) rfl ?_
  exact .refl
theorem zBR_eq : zBR.v = ((0 : Int) : Rat) := by decide +kernel
set_option maxRecDepth 100000 in
theorem r12_identity : CallsG Tryz.prog 36 [] [] (.agg (afE idA)) [] := by
  refine calls_to tok mix Tryz.func36 rfl rfl rfl ?_
  refine CallV.to _ ((r12_fromints 1 0 0 1 zBR zBR (by decide) (by decide) (by decide) (by decide) (by decide) (by decide)).args
    (.cons .refl (.cons .refl (.cons .refl (.cons .refl (.cons (LE_agg LE_zBR) (.cons (LE_agg LE_zBR) .nil))))))) rfl ?_
  rw [zBR_eq]
  exact .refl

set_option maxRecDepth 100000 in
set_option maxHeartbeats 4000000 in
theorem r12_comp (p t : AF) (hp : p.le 100) (ht : t.le 100) : CallsG Tryz.prog 146 [.sl afE [p, t]] [] (.tup [.agg (afE (compR p t).1), i64 (compR p t).2]) [] := by
  have bad : compR p t = (zeroAF, 5) → LE (.tup [.agg zero24, i64 5]) (.tup [.agg (afE (compR p t).1), i64 (compR p t).2]) := fun h => by
    rw [h]; exact LE_tup2 LE_zero24 .refl
  have bad3 : ¬ (p.ok ∧ t.ok ∧ (beh idA p).ok ∧ (beh (beh idA p) t).ok) → compR p t = (zeroAF, 5) := fun h => by
    unfold compR
    split
    · rfl
    · split
      · rfl
      · split
        · rfl
        · split
          · rfl
          · exact absurd ⟨Decidable.not_not.1 ‹_›, Decidable.not_not.1 ‹_›, Decidable.not_not.1 ‹_›, Decidable.not_not.1 ‹_›⟩ h
  refine calls_to tok mix Tryz.func146 rfl rfl rfl ?_
  refine CallV.to _ r12_identity rfl ?_
  have l1 := beh_le (n := 100) (idA_le.up (by decide)) hp
  refine ⟨Nat, fun i => ⟨[(5, i64 i), (4, .loc 1 0), (2, .loc 0 0), (0, .sl afE [p, t])], [(1, .box 43 (afE (if i = 0 then idA else if i = 1 then beh idA p else beh (beh idA p) t))), (0, .box 43 zero24)], 2, 31, 0⟩,
    fun i => i ≤ 2 ∧ (1 ≤ i → p.ok ∧ (beh idA p).ok) ∧ (2 ≤ i → t.ok ∧ (beh (beh idA p) t).ok), fun i => 2 - i, 0, ⟨by decide, fun h => by omega, fun h => by omega⟩, ?_, ?_⟩
  · exact sub_of [(0, some 0), (1, some 1)] rfl rfl rfl ⟨rfl, rfl, rfl, rfl, trivial⟩ ⟨rfl, rfl, trivial⟩
  rintro i ⟨hi, s1, s2⟩
  intro _
  have hi : i = 0 ∨ i = 1 ∨ i = 2 := by omega
  rcases hi with rfl | rfl | rfl
  · refine Br.mk (fun _ => ?_) (fun h => absurd (show ((0 : Nat) : Int) < 2 by decide) h)
    refine Ob.mk ⟨by decide, by show (0 : Int) < 2; decide⟩ ?_
    intro x hx
    cases hx
    refine CallV.to _ (r12_valid p (hp.up (by decide))) rfl ?_
    refine Br.mk (fun h => bad (bad3 fun k => h k.1)) (fun h => ?_)
    refine Dr.mk (by decide +kernel) ?_
    refine Ob.mk ⟨by decide, by show (0 : Int) < 2; decide⟩ ?_
    intro x hx
    cases hx
    refine CallV.to _ (r12_compose idA p (idA_le.up (by decide)) (hp.up (by decide))) rfl ?_
    refine CallV.to _ (r12_valid (beh idA p) (l1.up (by decide))) rfl ?_
    refine Br.mk (fun h => bad (bad3 fun k => h k.2.2.1)) (fun h2 => ?_)
    refine Ar.fit (by decide) ?_
    exact ⟨1, ⟨by decide, fun _ => ⟨Decidable.not_not.1 h, Decidable.not_not.1 h2⟩, fun h => by omega⟩, sub_of [(0, some 0), (1, some 1)] rfl rfl rfl ⟨rfl, rfl, rfl, rfl, trivial⟩ ⟨rfl, rfl, trivial⟩, by decide⟩
  · refine Br.mk (fun _ => ?_) (fun h => absurd (show ((1 : Nat) : Int) < 2 by decide) h)
    have s1 := s1 (by decide)
    refine Ob.mk ⟨by decide, by show (1 : Int) < 2; decide⟩ ?_
    intro x hx
    cases hx
    refine CallV.to _ (r12_valid t (ht.up (by decide))) rfl ?_
    refine Br.mk (fun h => bad (bad3 fun k => h k.2.1)) (fun h => ?_)
    refine Dr.mk (by decide +kernel) ?_
    refine Ob.mk ⟨by decide, by show (1 : Int) < 2; decide⟩ ?_
    intro x hx
    cases hx
    have l2 := beh_le (n := 100) ((beh_ok_le s1.2).up (by decide)) ht
    refine CallV.to _ (r12_compose (beh idA p) t ((beh_ok_le s1.2).up (by decide)) (ht.up (by decide))) rfl ?_
    refine CallV.to _ (r12_valid (beh (beh idA p) t) (l2.up (by decide))) rfl ?_
    refine Br.mk (fun h => bad (bad3 fun k => h k.2.2.2)) (fun h2 => ?_)
    refine Ar.fit (by decide) ?_
    exact ⟨2, ⟨by decide, fun _ => s1, fun _ => ⟨Decidable.not_not.1 h, Decidable.not_not.1 h2⟩⟩, sub_of [(0, some 0), (1, some 1)] rfl rfl rfl ⟨rfl, rfl, rfl, rfl, trivial⟩ ⟨rfl, rfl, trivial⟩, by decide⟩
  refine Br.mk (fun h => absurd h (by show ¬ ((2 : Nat) : Int) < 2; decide)) (fun _ => ?_)
  have s1 := s1 (by decide)
  have s2 := s2 (by decide)
  have e : compR p t = (beh (beh idA p) t, 0) := (if_neg (fun k => k s1.1)).trans ((if_neg (fun k => k s2.1)).trans ((if_neg (fun k => k s1.2)).trans (if_neg (fun k => k s2.2))))
  rw [e]
  exact LE_tup2 .refl .refl

end Go.Gs
/- Transforms, both texts: the inverse. -/
namespace Go.Gs
open Go.Proofs

/-- The inverse's linear part. -/
def inv0 (t : AF) : AF := ⟨ofQ (t.d.v / detQ t), ofQ (-t.b.v / detQ t), ofQ (-t.c.v / detQ t), ofQ (t.a.v / detQ t), zBR, zBR⟩
/-- The inverse. -/
def invA (t : AF) : AF := { inv0 t with e := ofQ (-(applX (inv0 t) t.e.v t.f.v)), f := ofQ (-(applY (inv0 t) t.e.v t.f.v)) }
def invR (t : AF) : AF × Int := if ¬ t.ok then (zeroAF, 5) else if detQ t = 0 then (zeroAF, 9) else if ¬ (invA t).ok then (zeroAF, 5) else (invA t, 0)
theorem invA_nrm (t : AF) : (invA t).nrm = invA t := by
  unfold invA inv0 AF.nrm; simp only [ofQ_v]

theorem qlen_div (x y : Rat) (h : y ≠ 0) : qlen (x / y) ≤ qlen x + qlen y := by
  rw [← q_quo_eq]
  have hy : y.num ≠ 0 := fun k => h (Rat.num_eq_zero.1 k)
  have h1 := qlen_divInt (n := x.num * y.den) (Int.mul_ne_zero (den_ne x) hy)
  have h2 := zlen_mul x.num y.den
  have h4 := zlen_mul x.den y.num
  have a1 := qlen_num x
  have a2 := qlen_num y
  have a3 := qlen_den x
  have a4 := qlen_den y
  omega
theorem det_len (t : AF) {n : Nat} (ht : t.le n) (hn : 1 ≤ n) : qlen (detQ t) ≤ 4 * n + 1 := by
  obtain ⟨ha, hb, hc, hd, he, hf⟩ := ht
  have l1 := qlen_v t.a
  have l2 := qlen_v t.b
  have l3 := qlen_v t.c
  have l4 := qlen_v t.d
  have m1 := qlen_mul t.a.v t.d.v
  have m2 := qlen_mul t.b.v t.c.v
  have m3 := qlen_sub (t.a.v * t.d.v) (t.b.v * t.c.v)
  show qlen (t.a.v * t.d.v - t.b.v * t.c.v) ≤ _
  omega
theorem inv0_le {t : AF} {n : Nat} (ht : t.le n) (hn : 1 ≤ n) (h0 : detQ t ≠ 0) : (inv0 t).le (5 * n + 1) := by
  have hd' := det_len t ht hn
  obtain ⟨ha, hb, hc, hd, he, hf⟩ := ht
  have l1 := qlen_v t.a
  have l2 := qlen_v t.b
  have l3 := qlen_v t.c
  have l4 := qlen_v t.d
  have n2 := qlen_neg t.b.v
  have n3 := qlen_neg t.c.v
  have q1 := qlen_div t.d.v (detQ t) h0
  have q2 := qlen_div (-t.b.v) (detQ t) h0
  have q3 := qlen_div (-t.c.v) (detQ t) h0
  have q4 := qlen_div t.a.v (detQ t) h0
  refine ⟨?_, ?_, ?_, ?_, ?_, ?_⟩
  · show (ofQ _).len ≤ _; rw [ofQ_len]; omega
  · show (ofQ _).len ≤ _; rw [ofQ_len]; omega
  · show (ofQ _).len ≤ _; rw [ofQ_len]; omega
  · show (ofQ _).len ≤ _; rw [ofQ_len]; omega
  · show 0 ≤ _; omega
  · show 0 ≤ _; omega
theorem invA_le {t : AF} {n : Nat} (ht : t.le n) (hn : 1 ≤ n) (h0 : detQ t ≠ 0) : (invA t).le (100 * n + 100) := by
  have hi := inv0_le ht hn h0
  obtain ⟨ha, hb, hc, hd, he, hf⟩ := ht
  obtain ⟨ia, ib, ic, id, ie, if'⟩ := hi
  have m1 := qlen_twos (n := 5 * n + 1) (inv0 t).a t.e (inv0 t).c t.f (inv0 t).e ia (by omega) ic (by omega) ie
  have m2 := qlen_twos (n := 5 * n + 1) (inv0 t).b t.e (inv0 t).d t.f (inv0 t).f ib (by omega) id (by omega) if'
  refine ⟨?_, ?_, ?_, ?_, ?_, ?_⟩
  · show (inv0 t).a.len ≤ _; omega
  · show (inv0 t).b.len ≤ _; omega
  · show (inv0 t).c.len ≤ _; omega
  · show (inv0 t).d.len ≤ _; omega
  · show (ofQ (-(applX (inv0 t) t.e.v t.f.v))).len ≤ _
    rw [ofQ_len, qlen_neg]
    have : qlen (applX (inv0 t) t.e.v t.f.v) ≤ 5 * (5 * n + 1) + 7 := m1.2
    omega
  · show (ofQ (-(applY (inv0 t) t.e.v t.f.v))).len ≤ _
    rw [ofQ_len, qlen_neg]
    have : qlen (applY (inv0 t) t.e.v t.f.v) ≤ 5 * (5 * n + 1) + 7 := m2.2
    omega

theorem a_by (x d : BR) (hx : x.len ≤ 1000000) (hd : d.len ≤ 1000000) (h0 : d.v ≠ 0) : CallsG Tryz.prog 135 [.agg (brE x), .ptr (brE d)] [] (.agg (brE (ofQ (x.v / d.v)))) [] := by
  refine calls_to tok mix Tryz.func135 rfl rfl rfl ?_
  refine CallV.to _ (q_quo x d (by omega) (by omega) h0) rfl ?_
  exact .refl

set_option maxRecDepth 100000 in
set_option maxHeartbeats 4000000 in
theorem a_invert (t : AF) (ht : t.le 100) : CallsG Tryz.prog 89 [.agg (afE t)] [] (.tup [.agg (afE (invR t).1), i64 (invR t).2]) [] := by
  have bad : ∀ n, invR t = (zeroAF, n) → LE (.tup [.agg zero24, i64 n]) (.tup [.agg (afE (invR t).1), i64 (invR t).2]) := fun n h => by
    rw [h]; exact LE_tup2 LE_zero24 .refl
  have hd' := det_len t ht (by decide)
  refine calls_to tok mix Tryz.func89 rfl rfl rfl ?_
  refine CallV.to _ (a_valid t (ht.up (by decide))) rfl ?_
  refine Br.mk (fun h => bad 5 (if_pos h)) (fun h1 => ?_)
  refine CallV.to _ (a_det t (ht.up (by decide))) rfl ?_
  refine Dr.mk (by decide +kernel) ?_
  refine CallV.to _ (q_fromint 0 (by decide)) rfl ?_
  refine CallV.to _ (q_cmp (ofQ (detQ t)) (ofQ ((0 : Int) : Rat)) (by rw [ofQ_len]; omega) (by decide +kernel)) rfl ?_
  rw [ofQ_v, ofQ_v]
  refine Br.mk (fun h => bad 9 ((if_neg h1).trans (if_pos (cmpQ_zero.1 h)))) (fun h => ?_)
  have h0 : detQ t ≠ 0 := fun k => h (cmpQ_zero.2 k)
  have hi := inv0_le ht (by decide) h0
  have hA := invA_le ht (by decide) h0
  have ht' := ht
  obtain ⟨ha, hb, hc, hd, he, hf⟩ := ht
  have hdv : (ofQ (detQ t)).v ≠ 0 := by rw [ofQ_v]; exact h0
  have lb := qlen_v t.b
  have lc := qlen_v t.c
  have nb := qlen_neg t.b.v
  have nc := qlen_neg t.c.v
  refine Dr.mk (by decide +kernel) ?_
  refine CallV.to _ (a_by t.d (ofQ (detQ t)) (by omega) (by rw [ofQ_len]; omega) hdv) rfl ?_
  refine CallV.to _ (q_neg t.b (by omega)) rfl ?_
  refine CallV.to _ (a_by (ofQ (-t.b.v)) (ofQ (detQ t)) (by rw [ofQ_len]; omega) (by rw [ofQ_len]; omega) hdv) rfl ?_
  refine CallV.to _ (q_neg t.c (by omega)) rfl ?_
  refine CallV.to _ (a_by (ofQ (-t.c.v)) (ofQ (detQ t)) (by rw [ofQ_len]; omega) (by rw [ofQ_len]; omega) hdv) rfl ?_
  refine CallV.to _ (a_by t.a (ofQ (detQ t)) (by omega) (by rw [ofQ_len]; omega) hdv) rfl ?_
  rw [ofQ_v, ofQ_v, ofQ_v]
  have h24 : LEs (brE (inv0 t).a ++ (brE (inv0 t).b ++ (brE (inv0 t).c ++ (brE (inv0 t).d ++ (z4 ++ z4))))) (afE (inv0 t)) :=
    LEs.append .refl (LEs.append .refl (LEs.append .refl (LEs.append .refl (LEs.append LE_zBR LE_zBR))))
  have mX := qlen_twos (n := 501) (inv0 t).a t.e (inv0 t).c t.f (inv0 t).e hi.1 (by omega) hi.2.2.1 (by omega) hi.2.2.2.2.1
  have mY := qlen_twos (n := 501) (inv0 t).b t.e (inv0 t).d t.f (inv0 t).f hi.2.1 (by omega) hi.2.2.2.1 (by omega) hi.2.2.2.2.2
  have mX2 : qlen (applX (inv0 t) t.e.v t.f.v) ≤ 5 * 501 + 7 := mX.2
  have mY2 : qlen (applY (inv0 t) t.e.v t.f.v) ≤ 5 * 501 + 7 := mY.2
  refine CallV.to _ ((a_exact (inv0 t) t.e t.f (hi.up (by decide)) (by omega) (by omega)).args (.cons (LE_agg h24) (.cons .refl (.cons .refl .nil)))) rfl ?_
  refine Dr.mk (by decide +kernel) ?_
  refine CallV.to _ (q_neg (ofQ (applX (inv0 t) t.e.v t.f.v)) (by rw [ofQ_len]; omega)) rfl ?_
  refine CallV.to _ (q_neg (ofQ (applY (inv0 t) t.e.v t.f.v)) (by rw [ofQ_len]; omega)) rfl ?_
  rw [ofQ_v, ofQ_v]
  refine CallV.to _ (a_valid (invA t) (hA.up (by decide))) rfl ?_
  refine Br.mk (fun h => bad 5 ((if_neg h1).trans ((if_neg h0).trans (if_pos h)))) (fun h => ?_)
  refine CallV.to _ (a_normalize (invA t) (hA.up (by decide))) rfl ?_
  rw [invA_nrm, show invR t = (invA t, 0) from (if_neg h1).trans ((if_neg h0).trans (if_neg h))]
  exact LE_tup2 .refl .refl

theorem r12_quotient (x d : BR) (hx : x.len ≤ 1000000) (hd : d.len ≤ 1000000) (h0 : d.v ≠ 0) : CallsG Tryz.prog 204 [.agg (brE x), .agg (brE d)] [] (.agg (brE (ofQ (x.v / d.v)))) [] := by
  refine calls_to tok mix Tryz.func204 rfl rfl rfl ?_
  refine CallV.to _ (r3_quo x d (by omega) (by omega) h0) rfl ?_
  exact .refl

theorem neg_div (x y : Rat) : -(x / y) = -x / y := by rw [Rat.div_def, Rat.div_def, Rat.neg_mul]
set_option maxRecDepth 100000 in
set_option maxHeartbeats 4000000 in
theorem r12_invert (t : AF) (ht : t.le 100) : CallsG Tryz.prog 147 [.agg (afE t)] [] (.tup [.agg (afE (invR t).1), i64 (invR t).2]) [] := by
  have bad : ∀ n, invR t = (zeroAF, n) → LE (.tup [.agg zero24, i64 n]) (.tup [.agg (afE (invR t).1), i64 (invR t).2]) := fun n h => by
    rw [h]; exact LE_tup2 LE_zero24 .refl
  have hd' := det_len t ht (by decide)
  refine calls_to tok mix Tryz.func147 rfl rfl rfl ?_
  refine CallV.to _ (r12_valid t (ht.up (by decide))) rfl ?_
  refine Br.mk (fun h => bad 5 (if_pos h)) (fun h1 => ?_)
  refine CallV.to _ (r12_det t (ht.up (by decide))) rfl ?_
  refine Dr.mk (by decide +kernel) ?_
  refine CallV.to _ (r3_fromInt 0 (by decide)) rfl ?_
  refine CallV.to _ (r3_cmp (ofQ (detQ t)) (ofQ ((0 : Int) : Rat)) (by rw [ofQ_len]; omega) (by decide +kernel)) rfl ?_
  rw [ofQ_v, ofQ_v]
  refine Br.mk (fun h => bad 9 ((if_neg h1).trans (if_pos (cmpQ_zero.1 h)))) (fun h => ?_)
  have h0 : detQ t ≠ 0 := fun k => h (cmpQ_zero.2 k)
  have hi := inv0_le ht (by decide) h0
  have hA := invA_le ht (by decide) h0
  obtain ⟨ha, hb, hc, hd, he, hf⟩ := ht
  obtain ⟨ia, ib, ic, id, ie, if'⟩ := hi
  have hdv : (ofQ (detQ t)).v ≠ 0 := by rw [ofQ_v]; exact h0
  have lb := qlen_v t.b
  have lc := qlen_v t.c
  have qb := qlen_div t.b.v (detQ t) h0
  have qc := qlen_div t.c.v (detQ t) h0
  refine Dr.mk (by decide +kernel) ?_
  refine CallV.to _ (r12_quotient t.d (ofQ (detQ t)) (by omega) (by rw [ofQ_len]; omega) hdv) rfl ?_
  refine CallV.to _ (r12_quotient t.b (ofQ (detQ t)) (by omega) (by rw [ofQ_len]; omega) hdv) rfl ?_
  rw [ofQ_v]
  refine CallV.to _ (r3_neg (ofQ (t.b.v / detQ t)) (by rw [ofQ_len]; omega)) rfl ?_
  refine CallV.to _ (r12_quotient t.c (ofQ (detQ t)) (by omega) (by rw [ofQ_len]; omega) hdv) rfl ?_
  rw [ofQ_v, ofQ_v]
  refine CallV.to _ (r3_neg (ofQ (t.c.v / detQ t)) (by rw [ofQ_len]; omega)) rfl ?_
  refine CallV.to _ (r12_quotient t.a (ofQ (detQ t)) (by omega) (by rw [ofQ_len]; omega) hdv) rfl ?_
  rw [ofQ_v, ofQ_v, neg_div, neg_div]
  have eX : applX (inv0 t) t.e.v t.f.v = (inv0 t).a.v * t.e.v + (inv0 t).c.v * t.f.v := by
    unfold applX; rw [show (inv0 t).e.v = 0 from zBR_v, Rat.add_zero]
  have eY : applY (inv0 t) t.e.v t.f.v = (inv0 t).b.v * t.e.v + (inv0 t).d.v * t.f.v := by
    unfold applY; rw [show (inv0 t).f.v = 0 from zBR_v, Rat.add_zero]
  have mX := qlen_twos (n := 501) (inv0 t).a t.e (inv0 t).c t.f (inv0 t).e ia (by omega) ic (by omega) ie
  have mY := qlen_twos (n := 501) (inv0 t).b t.e (inv0 t).d t.f (inv0 t).f ib (by omega) id (by omega) if'
  refine CallV.to _ (r12_dot (inv0 t).a t.e (inv0 t).c t.f (by omega) (by omega) (by omega) (by omega)) rfl ?_
  rw [← eX]
  refine CallV.to _ (r3_neg (ofQ (applX (inv0 t) t.e.v t.f.v)) (by rw [ofQ_len, eX]; omega)) rfl ?_
  refine CallV.to _ (r12_dot (inv0 t).b t.e (inv0 t).d t.f (by omega) (by omega) (by omega) (by omega)) rfl ?_
  rw [← eY]
  refine CallV.to _ (r3_neg (ofQ (applY (inv0 t) t.e.v t.f.v)) (by rw [ofQ_len, eY]; omega)) rfl ?_
  rw [ofQ_v, ofQ_v]
  refine CallV.to _ (r12_valid (invA t) (hA.up (by decide))) rfl ?_
  refine Br.mk (fun h => bad 5 ((if_neg h1).trans ((if_neg h0).trans (if_pos h)))) (fun h => ?_)
  rw [show invR t = (invA t, 0) from (if_neg h1).trans ((if_neg h0).trans (if_neg h))]
  exact LE_tup2 .refl .refl

end Go.Gs
/- The stops of a gradient: those that may be, those that are the same, copies; offsets spread. -/
namespace Go.Gs
open Go.Proofs

structure Stop where
  o : Int
  c : Pix
  deriving DecidableEq
def stopE (s : Stop) : List SV := [i64 s.o, u8 s.c.r, u8 s.c.g, u8 s.c.b, u8 s.c.a]
theorem stop_eq {p q : Stop} : (p.o = q.o ∧ p.c.r = q.c.r ∧ p.c.g = q.c.g ∧ p.c.b = q.c.b ∧ p.c.a = q.c.a ∧ True) ↔ p = q := by
  rcases p with ⟨a, b, c, d, e⟩; rcases q with ⟨a', b', c', d', e'⟩; simp

/-- Offsets that do not fall, from one on. -/
def upTo : Int → List Stop → Prop
  | _, [] => True
  | lo, s :: l => (lo ≤ s.o ∧ s.o ≤ 65536) ∧ upTo s.o l
instance : ∀ lo l, Decidable (upTo lo l)
  | _, [] => isTrue trivial
  | _, s :: l => haveI := instDecidableUpTo s.o l; inferInstanceAs (Decidable (_ ∧ _))
theorem upTo_range : ∀ {lo : Int} {l : List Stop}, upTo lo l → ∀ s ∈ l, lo ≤ s.o ∧ s.o ≤ 65536
  | _, [], _, _, h => by cases h
  | _, a :: l, h, s, hs => by
    cases hs with
    | head => exact h.1
    | tail _ hs => have := upTo_range h.2 s hs; have := h.1; omega
theorem upTo_le : ∀ {lo : Int} {l : List Stop} {i j : Nat} {s t : Stop}, upTo lo l → i ≤ j → l[i]? = some s → l[j]? = some t → s.o ≤ t.o
  | _, [], i, _, _, _, _, _, h, _ => by simp at h
  | _, a :: l, 0, 0, s, t, _, _, h1, h2 => by simp at h1 h2; rw [← h1, ← h2]; omega
  | _, a :: l, 0, j + 1, s, t, h, _, h1, h2 => by
    simp at h1 h2
    have := upTo_range h.2 t (List.mem_of_getElem? h2)
    rw [← h1]; exact this.1
  | _, a :: l, i + 1, 0, _, _, _, h, _, _ => by omega
  | _, a :: l, i + 1, j + 1, s, t, h, hij, h1, h2 => upTo_le (i := i) (j := j) h.2 (by omega) (by simpa using h1) (by simpa using h2)

def stopsOK (l : List Stop) : Prop := (1 ≤ (l.length : Int) ∧ (l.length : Int) ≤ 16) ∧ upTo 0 l
instance (l : List Stop) : Decidable (stopsOK l) := inferInstanceAs (Decidable (_ ∧ _))

theorem c_gvalid (l : List Stop) : CallsG Tryz.prog 179 [.sl stopE l] [] (pr (stopsOK l)) [] := by
  refine calls_to tok mix Tryz.func179 rfl rfl rfl ?_
  intro hl1
  refine Br.mk (fun h => LE_false (fun k => by have := k.1.1; omega)) (fun h2 => ?_)
  intro hl2
  refine Br.mk (fun h => LE_false (fun k => by have := k.1.2; omega)) (fun h3 => ?_)
  intro hl4
  refine ⟨Int × Int, fun ⟨i, at_⟩ => ⟨[(3, i64 at_), (14, .sl stopE l), (15, i64 l.length), (16, i64 i)], [], 0, 32, 0⟩, fun (i, at_) => 0 ≤ i ∧ i ≤ l.length ∧ (upTo 0 l ↔ upTo at_ (l.drop i.toNat)), fun (i, _) => ((l.length : Int) - i).toNat, (0, 0), ?_, ?_, ?_⟩
  · exact ⟨by omega, by omega, Iff.rfl⟩
  · exact sub_of [] rfl rfl rfl ⟨rfl, rfl, rfl, rfl, trivial⟩ trivial
  rintro ⟨i, at_⟩ ⟨g1, g2, g3⟩
  refine Br.mk (fun h5 => ?_) (fun h5 => ?_)
  · refine Ob.mk (by omega) ?_
    intro x hx
    have hd : l.drop i.toNat = x :: l.drop (i.toNat + 1) := by
      obtain ⟨hi, he⟩ := List.getElem?_eq_some_iff.1 hx
      rw [List.drop_eq_getElem_cons hi, he]
    rw [hd] at g3
    refine Br.mk (fun h6 => LE_false (fun k => by have := (g3.1 k.2).1; omega)) (fun h6 => ?_)
    refine Br.mk (fun h7 => LE_false (fun k => by have := (g3.1 k.2).1; omega)) (fun h7 => ?_)
    refine Ar.fit (by omega) ?_
    refine ⟨(i + 1, x.o), ⟨by omega, by omega, ?_⟩, sub_of [] rfl rfl rfl ⟨rfl, rfl, rfl, rfl, trivial⟩ trivial, by dsimp only; omega⟩
    rw [g3, show (i + 1).toNat = i.toNat + 1 by omega]
    exact ⟨fun k => k.2, fun k => ⟨by omega, k⟩⟩
  · refine LE_true ⟨by omega, g3.2 ?_⟩
    rw [List.drop_eq_nil_of_le (by omega)]; trivial

theorem c_gvalid' (l : List Stop) : CallsG Tryz.prog 260 [.sl stopE l] [] (pr (stopsOK l)) [] := by
  refine calls_to tok mix Tryz.func260 rfl rfl rfl ?_
  refine ⟨Int × Int, fun ⟨i, _⟩ => ⟨[(0, .sl stopE l), (3, i64 i)], [], 0, 50, 0⟩, fun (i, at_) => 0 ≤ i ∧ i ≤ l.length ∧ (i = 0 → at_ = 0) ∧ (0 < i → 0 ≤ at_ ∧ ∃ y, l[(i - 1).toNat]? = some y ∧ y.o = at_) ∧ (upTo 0 l ↔ upTo at_ (l.drop i.toNat)), fun (i, _) => ((l.length : Int) - i).toNat, (0, 0), ?_, ?_, ?_⟩
  · exact ⟨by omega, by omega, fun _ => rfl, fun h => by omega, Iff.rfl⟩
  · exact sub_of [] rfl rfl rfl ⟨rfl, rfl, trivial⟩ trivial
  rintro ⟨i, at_⟩ ⟨g1, g2, g4, g5, g3⟩
  intro hl1
  refine Br.mk (fun h5 => ?_) (fun h5 => ?_)
  · refine Dr.mk (by decide +kernel) ?_
    refine Ob.mk (by omega) ?_
    intro x hx
    have hd : l.drop i.toNat = x :: l.drop (i.toNat + 1) := by
      obtain ⟨hi, he⟩ := List.getElem?_eq_some_iff.1 hx
      rw [List.drop_eq_getElem_cons hi, he]
    rw [hd] at g3
    have hat : 0 ≤ at_ := by
      by_cases h0 : 0 < i
      · exact (g5 h0).1
      · have := g4 (by omega); omega
    refine Br.mk (fun h6 => LE_false (fun k => by have := (g3.1 k.2).1; omega)) (fun h6 => ?_)
    refine Ob.mk (by omega) ?_
    intro x' hx'
    rw [hx] at hx'; cases hx'
    refine Br.mk (fun h7 => LE_false (fun k => by have := (g3.1 k.2).1; omega)) (fun h7 => ?_)
    refine Br.mk (fun h8 => ?_) (fun h8 => ?_)
    · obtain ⟨_, y, hy, hyo⟩ := g5 h8
      refine Ob.mk (by omega) ?_
      intro x' hx'
      rw [hx] at hx'; cases hx'
      refine Ar.fit (by omega) ?_
      refine Ob.mk (by omega) ?_
      intro y' hy'
      rw [hy] at hy'; cases hy'
      refine Br.mk (fun h9 => LE_false (fun k => by have := (g3.1 k.2).1; omega)) (fun h9 => ?_)
      refine Ar.fit (by omega) ?_
      refine ⟨(i + 1, x.o), ⟨by omega, by omega, fun h => by omega, fun _ => ⟨by omega, x, by rw [show (i + 1 - 1).toNat = i.toNat by omega]; exact hx, rfl⟩, ?_⟩, sub_of [] rfl rfl rfl ⟨rfl, rfl, trivial⟩ trivial, by dsimp only; omega⟩
      rw [g3, show (i + 1).toNat = i.toNat + 1 by omega]
      exact ⟨fun k => k.2, fun k => ⟨by omega, k⟩⟩
    · refine Ar.fit (by omega) ?_
      have := g4 (by omega)
      refine ⟨(i + 1, x.o), ⟨by omega, by omega, fun h => by omega, fun _ => ⟨by omega, x, by rw [show (i + 1 - 1).toNat = i.toNat by omega]; exact hx, rfl⟩, ?_⟩, sub_of [] rfl rfl rfl ⟨rfl, rfl, trivial⟩ trivial, by dsimp only; omega⟩
      rw [g3, show (i + 1).toNat = i.toNat + 1 by omega]
      exact ⟨fun k => k.2, fun k => ⟨by omega, k⟩⟩
  · have hall : upTo 0 l := g3.2 (by rw [List.drop_eq_nil_of_le (by omega)]; trivial)
    intro hl2
    refine Br.mk (fun h6 => ?_) (fun h6 => ?_)
    · intro hl3
      exact LE_pr ⟨fun k => ⟨⟨by omega, k⟩, hall⟩, fun k => k.1.2⟩
    · exact LE_false fun k => h6 k.1.1

theorem minL2 (a b : Int) : minL a [b] = min a b := rfl
def spreadI (t m : Int) : Int :=
  if m = 1 then clampI t 0 65536 else if m = 2 then t % 65536 else if m = 3 then min (t % 131072) (131072 - t % 131072) else 0
theorem c_clamp' (n lo hi : Int) : CallsG Tryz.prog 262 [i64 n, i64 lo, i64 hi] [] (i64 (clampI n lo hi)) [] := by
  refine calls_to tok mix Tryz.func262 rfl rfl rfl ?_
  refine Br.mk (fun h => ?_) (fun h => ?_)
  · exact LE_int (by simp [clampI, h])
  refine Br.mk (fun h2 => ?_) (fun h2 => ?_)
  · exact LE_int (by simp [clampI, h, h2])
  · exact LE_int (by simp [clampI, h, h2])

theorem c_spreadoff (t m : Int) : CallsG Tryz.prog 335 [i64 t, i64 m] [] (i64 (spreadI t m)) [] := by
  refine calls_to tok mix Tryz.func335 rfl rfl rfl ?_
  refine Br.mk (fun h1 => ?_) (fun h1 => ?_)
  · refine CallV.to _ (c_clamp t 0 65536) rfl ?_
    exact LE_int (by simp [spreadI, h1])
  refine Br.mk (fun h2 => ?_) (fun h2 => ?_)
  · refine CallV.to _ (c_mod t 65536 (by decide) (by decide)) rfl ?_
    exact LE_int (by simp [spreadI, h2])
  refine Br.mk (fun h3 => ?_) (fun h3 => ?_)
  · refine CallV.to _ (c_mod t 131072 (by decide) (by decide)) rfl ?_
    refine Ar.fit (by omega) ?_
    refine LE_int ?_
    rw [spreadI, if_neg h1, if_neg h2, if_pos h3]
    exact minL2 _ _
  · exact LE_int (by rw [spreadI, if_neg h1, if_neg h2, if_neg h3])

theorem c_spreadoff' (t m : Int) : CallsG Tryz.prog 209 [i64 t, i64 m] [] (i64 (spreadI t m)) [] := by
  refine calls_to tok mix Tryz.func209 rfl rfl rfl ?_
  refine Br.mk (fun h1 => ?_) (fun h1 => ?_)
  · refine CallV.to _ (c_clamp' t 0 65536) rfl ?_
    exact LE_int (by simp [spreadI, h1])
  refine Br.mk (fun h2 => ?_) (fun h2 => ?_)
  · refine CallV.to _ (c_mod' t 65536 (by decide) (by decide)) rfl ?_
    exact LE_int (by simp [spreadI, h2])
  refine Br.mk (fun h3 => ?_) (fun h3 => ?_)
  · refine CallV.to _ (c_mod' t 131072 (by decide) (by decide)) rfl ?_
    refine Ar.fit (by omega) ?_
    refine LE_int ?_
    rw [spreadI, if_neg h1, if_neg h2, if_pos h3]
    exact minL2 _ _
  · exact LE_int (by rw [spreadI, if_neg h1, if_neg h2, if_neg h3])

theorem slist_eq {xs ys : List Stop} {i : Int} (hl : (xs.length : Int) = ys.length) (hi : ¬ i < xs.length) (h : ∀ j : Nat, (j : Int) < i → xs[j]? = ys[j]?) : xs = ys := by
  refine List.ext_getElem? fun j => ?_
  by_cases hj : (j : Int) < i
  · exact h j hj
  · rw [List.getElem?_eq_none (by omega), List.getElem?_eq_none (by omega)]

theorem c_stseq (xs ys : List Stop) : CallsG Tryz.prog 176 [.sl stopE xs, .sl stopE ys] [] (pr (xs = ys)) [] := by
  refine calls_to tok mix Tryz.func176 rfl rfl rfl ?_
  intro hl1 hl2
  refine Br.mk (fun h1 => LE_false fun e => h1 (by rw [e])) (fun h1 => ?_)
  have h1 := Decidable.not_not.1 h1
  intro hl3
  refine ⟨Int, fun i => ⟨[(13, i64 i), (12, i64 xs.length), (0, .sl stopE xs), (1, .sl stopE ys)], [], 0, 26, 0⟩, fun i => 0 ≤ i ∧ i ≤ xs.length ∧ ∀ j : Nat, (j : Int) < i → xs[j]? = ys[j]?, fun i => ((xs.length : Int) - i).toNat, 0, ?_, ?_, ?_⟩
  · exact ⟨by omega, by omega, fun j hj => by omega⟩
  · exact sub_of [] rfl rfl rfl ⟨rfl, rfl, rfl, rfl, trivial⟩ trivial
  rintro i ⟨h4, h5, h6⟩
  refine Br.mk (fun h7 => ?_) (fun h7 => ?_)
  · refine Dr.mk (by decide +kernel) ?_
    refine Ob.mk (by omega) ?_
    intro x hx
    refine Ob.mk (by omega) ?_
    intro y hy
    refine Br.mk (fun h8 => ?_) (fun h8 => ?_)
    · refine LE_false fun e => h8 (stop_eq.2 ?_)
      subst e
      rw [hx] at hy; exact Option.some.inj hy
    · refine Ar.fit (by omega) ?_
      refine ⟨i + 1, ⟨by omega, by omega, fun j hj => ?_⟩, sub_of [] rfl rfl rfl ⟨rfl, rfl, rfl, rfl, trivial⟩ trivial, by dsimp only; omega⟩
      by_cases e : j = i.toNat
      · subst e; rw [hx, hy, stop_eq.1 (Decidable.not_not.1 h8)]
      · exact h6 j (by omega)
  · exact LE_true (slist_eq h1 h7 h6)

theorem c_stclone (q : List Stop) (hq : q.length ≤ 256) : CallsG Tryz.prog 126 [.sl stopE q] [] (.own 0) [(0, .arr 152 stopE 5 q)] := by
  refine calls_own tok mix Tryz.func126 rfl rfl rfl ?_
  by_cases h0 : q = []
  · refine NilC.any (Br.mk ?_ ?_)
    · exact ⟨none, .nil rfl, h0⟩
    · refine ⟨Stop, stopE, [], rfl, Ob.mk ⟨rfl, by decide, by decide, by decide, fun x hx => by cases hx⟩ ?_⟩
      refine ⟨q, rfl, Ob.mk ⟨(by show _ * (16 : Int) ≤ _; simp only [List.length_nil]; omega), (by simp only [List.length_nil]; omega), by decide, fun _ _ => rfl⟩ ?_⟩
      exact ⟨some 1, .own _ rfl, rfl, fun _ _ => rfl⟩
  · refine NilC.some (fun h => h0 (List.eq_nil_of_length_eq_zero h)) ?_
    refine ⟨Stop, stopE, [], rfl, Ob.mk ⟨rfl, by decide, by decide, by decide, fun x hx => by cases hx⟩ ?_⟩
    refine ⟨q, rfl, Ob.mk ⟨(by show _ * (16 : Int) ≤ _; simp only [List.length_nil]; omega), (by simp only [List.length_nil]; omega), by decide, fun _ _ => rfl⟩ ?_⟩
    exact ⟨some 1, .own _ rfl, rfl, fun _ _ => rfl⟩

theorem c_pxclone (q : List Pix) (hq : q.length ≤ 1000) : CallsG Tryz.prog 66 [.sl pixE q] [] (.own 0) [(0, .arr 57 pixE 4 q)] := by
  refine calls_own tok mix Tryz.func66 rfl rfl rfl ?_
  by_cases h0 : q = []
  · refine NilC.any (Br.mk ?_ ?_)
    · exact ⟨none, .nil rfl, h0⟩
    · refine ⟨Pix, pixE, [], rfl, Ob.mk ⟨rfl, by decide, by decide, by decide, fun x hx => by cases hx⟩ ?_⟩
      refine ⟨q, rfl, Ob.mk ⟨(by show _ * (4 : Int) ≤ _; simp only [List.length_nil]; omega), (by simp only [List.length_nil]; omega), by decide, fun _ _ => rfl⟩ ?_⟩
      exact ⟨some 1, .own _ rfl, rfl, fun _ _ => rfl⟩
  · refine NilC.some (fun h => h0 (List.eq_nil_of_length_eq_zero h)) ?_
    refine ⟨Pix, pixE, [], rfl, Ob.mk ⟨rfl, by decide, by decide, by decide, fun x hx => by cases hx⟩ ?_⟩
    refine ⟨q, rfl, Ob.mk ⟨(by show _ * (4 : Int) ≤ _; simp only [List.length_nil]; omega), (by simp only [List.length_nil]; omega), by decide, fun _ _ => rfl⟩ ?_⟩
    exact ⟨some 1, .own _ rfl, rfl, fun _ _ => rfl⟩

end Go.Gs
/- The color of a gradient at an offset. -/
namespace Go.Gs
open Go.Proofs

/-- How many stops stand at the front with an offset of at most t. -/
def kAt (t : Int) : List Stop → Nat
  | [] => 0
  | s :: l => if s.o ≤ t then kAt t l + 1 else 0
theorem kAt_le (t : Int) : ∀ l, kAt t l ≤ l.length
  | [] => Nat.le_refl _
  | s :: l => by unfold kAt; split <;> simp [kAt_le t l]
theorem kAt_lt {t : Int} : ∀ {l : List Stop} {i : Nat} {s : Stop}, i < kAt t l → l[i]? = some s → s.o ≤ t
  | [], _, _, h, _ => by simp [kAt] at h
  | a :: l, i, s, h, hs => by
    unfold kAt at h
    split at h
    · rename_i ha
      cases i with
      | zero => simp at hs; rw [← hs]; exact ha
      | succ i => exact kAt_lt (l := l) (i := i) (by omega) (by simpa using hs)
    · omega
theorem kAt_ge {t : Int} : ∀ {l : List Stop} {s : Stop}, l[kAt t l]? = some s → t < s.o
  | [], _, h => by simp at h
  | a :: l, s, h => by
    unfold kAt at h
    split at h
    · exact kAt_ge (l := l) (by simpa using h)
    · rename_i ha
      simp at h; rw [← h]; omega
theorem kAt_unique {t : Int} {l : List Stop} {k : Nat} (hk : k ≤ l.length) (h1 : ∀ (i : Nat) s, i < k → l[i]? = some s → s.o ≤ t) (h2 : ∀ s, l[k]? = some s → t < s.o) : kAt t l = k := by
  have h3 := kAt_le t l
  rcases Nat.lt_trichotomy (kAt t l) k with h | h | h
  · obtain ⟨s, hs⟩ : ∃ s, l[kAt t l]? = some s := ⟨l[kAt t l]'(by omega), List.getElem?_eq_getElem _⟩
    have := kAt_ge hs; have := h1 _ _ h hs; omega
  · exact h
  · obtain ⟨s, hs⟩ : ∃ s, l[k]? = some s := ⟨l[k]'(by omega), List.getElem?_eq_getElem _⟩
    have := h2 _ hs; have := kAt_lt h hs; omega

theorem P8_zero : P8 zeroP := ⟨⟨by decide, by decide⟩, ⟨by decide, by decide⟩, ⟨by decide, by decide⟩, ⟨by decide, by decide⟩⟩
def zstop : Stop := ⟨0, zeroP⟩
def stAt (l : List Stop) (i : Nat) : Stop := l.getD i zstop
theorem stAt_some {l : List Stop} {i : Nat} {s : Stop} (h : l[i]? = some s) : stAt l i = s := by simp [stAt, h]
def colAt (l : List Stop) (t : Int) : Pix :=
  if stopsOK l then
    (if kAt t l = 0 then (stAt l 0).c else if kAt t l = l.length then (stAt l (kAt t l - 1)).c
     else lerpC (stAt l (kAt t l - 1)).c (stAt l (kAt t l)).c (t - (stAt l (kAt t l - 1)).o) ((stAt l (kAt t l)).o - (stAt l (kAt t l - 1)).o))
  else zeroP

theorem colAt_8 {l : List Stop} {t : Int} (h8 : ∀ s ∈ l, P8 s.c) : P8 (colAt l t) := by
  unfold colAt
  split
  · rename_i ho
    have hl := ho.1.1
    have get : ∀ i, i < l.length → ∃ s, l[i]? = some s ∧ s ∈ l := fun i hi => ⟨l[i], List.getElem?_eq_getElem _, List.getElem_mem _⟩
    split
    · obtain ⟨s, hs, hm⟩ := get 0 (by omega)
      rw [stAt_some hs]; exact h8 s hm
    split
    · obtain ⟨s, hs, hm⟩ := get (kAt t l - 1) (by omega)
      rw [stAt_some hs]; exact h8 s hm
    · have hk := kAt_le t l
      obtain ⟨s, hs, hm⟩ := get (kAt t l - 1) (by omega)
      obtain ⟨u, hu, hn⟩ := get (kAt t l) (by omega)
      rw [stAt_some hs, stAt_some hu]
      have h1 := kAt_lt (t := t) (i := kAt t l - 1) (by omega) hs
      have h2 := kAt_ge hu
      have h3 := upTo_range ho.2 s hm
      have h4 := upTo_range ho.2 u hn
      exact lerpC_8 (h8 s hm) (h8 u hn) (by omega) (by omega)
  · exact P8_zero

theorem c_colat (l : List Stop) (t : Int) (h8 : ∀ s ∈ l, P8 s.c) : CallsG Tryz.prog 334 [.sl stopE l, i64 t] [] (.agg (pixE (colAt l t))) [] := by
  refine calls_to tok mix Tryz.func334 rfl rfl rfl ?_
  have fin : ∀ {σ : SV} {q : Pix}, colAt l t = q → LE σ (.agg (pixE q)) → LE σ (.agg (pixE (colAt l t))) := fun e h => e ▸ h
  refine CallV.to _ (c_gvalid l) rfl ?_
  refine Br.mk (fun h1 => ?_) (fun h1 => ?_)
  · exact fin (q := zeroP) (by rw [colAt, if_neg h1]) .refl
  have h1 := Decidable.not_not.1 h1
  have hl := h1.1
  intro hl2
  refine ⟨Int, fun i => ⟨[(0, .sl stopE l), (1, i64 t), (4, .loc 0 0), (5, i64 (i - 1)), (14, .sl stopE l), (15, i64 l.length), (16, i64 i)], [(0, .box 31 (pixE zeroP))], 1, 68, 0⟩,
    fun i => 0 ≤ i ∧ i ≤ l.length ∧ ∀ (j : Nat) s, (j : Int) < i → l[j]? = some s → s.o ≤ t, fun i => ((l.length : Int) - i).toNat, 0, ?_, ?_, ?_⟩
  · exact ⟨by omega, by omega, fun j s hj => by omega⟩
  · exact sub_of [(0, some 0)] rfl rfl rfl ⟨rfl, rfl, rfl, rfl, rfl, rfl, rfl, trivial⟩ ⟨rfl, trivial⟩
  rintro i ⟨g1, g2, g3⟩
  have ends : ∀ k : Nat, k ≤ l.length → (k : Int) = i → (∀ s, l[k]? = some s → t < s.o) → kAt t l = k := fun k hk hi hs => kAt_unique hk (fun j s hj => g3 j s (by omega)) hs
  refine Br.mk (fun h5 => ?_) (fun h5 => ?_)
  · refine Ob.mk (by omega) ?_
    intro x hx
    refine Br.mk (fun h6 => ?_) (fun h6 => ?_)
    · have hk := ends i.toNat (by omega) (by omega) (fun s hs => by rw [hx] at hs; cases hs; omega)
      refine Br.mk (fun h7 => ?_) (fun h7 => ?_)
      · refine Ob.mk (by omega) ?_
        intro y hy
        refine fin (q := y.c) ?_ .refl
        rw [colAt, if_pos h1, if_pos (by omega), stAt_some (i := 0) hy]
      · intro hl6
        refine Ar.fit (by omega) ?_
        refine Br.mk (fun h9 => ?_) (fun h9 => ?_)
        · omega
        · refine Dr.dyn (Ob.mk (by decide +kernel) ?_)
          refine Ob.mk (by omega) ?_
          intro y hy
          refine Ar.fit (by omega) ?_
          refine Ob.mk (by omega) ?_
          intro z hz
          refine Ob.mk (by kernel_rfl) ?_
          have e1 : kAt t l - 1 = (i - 1).toNat := by omega
          have e2 : kAt t l = (i - 1 + 1).toNat := by omega
          have q1 := kAt_lt (t := t) (i := (i - 1).toNat) (by omega) hy
          have q2 := kAt_ge (t := t) (l := l) (s := z) (by rw [e2]; exact hz)
          have q3 := upTo_range h1.2 y (List.mem_of_getElem? hy)
          have q4 := upTo_range h1.2 z (List.mem_of_getElem? hz)
          refine Ar.fit (by omega) ?_
          refine Ar.fit (by omega) ?_
          refine CallV.to _ (c_lerpc y.c z.c (t - y.o) (z.o - y.o) (h8 y (List.mem_of_getElem? hy)) (h8 z (List.mem_of_getElem? hz)) (by omega) (by omega)) rfl ?_
          refine fin (q := lerpC y.c z.c (t - y.o) (z.o - y.o)) ?_ .refl
          rw [colAt, if_pos h1, if_neg (by omega), if_neg (by omega), e1, stAt_some hy, stAt_some (i := kAt t l) (by rw [e2]; exact hz)]
    · refine Ar.fit (by omega) ?_
      refine ⟨i + 1, ⟨by omega, by omega, fun j s hj hs => ?_⟩, sub_of [(0, some 0)] rfl rfl rfl ⟨rfl, rfl, rfl, congrArg (fun n => some (i64 n)) (by omega), rfl, rfl, rfl, trivial⟩ ⟨rfl, trivial⟩, by dsimp only; omega⟩
      by_cases e : j = i.toNat
      · subst e; rw [hx] at hs; cases hs; omega
      · exact g3 j s (by omega) hs
  · have hk := ends i.toNat (by omega) (by omega) (fun s hs => by rw [List.getElem?_eq_none (by omega)] at hs; cases hs)
    refine Br.mk (fun h7 => by omega) (fun h7 => ?_)
    intro hl6
    refine Ar.fit (by omega) ?_
    refine Br.mk (fun h9 => ?_) (fun h9 => by omega)
    refine Ob.mk (by omega) ?_
    intro y hy
    refine fin (q := y.c) ?_ .refl
    rw [colAt, if_pos h1, if_neg (by omega), if_pos (by omega), show kAt t l - 1 = (i - 1).toNat by omega, stAt_some hy]

theorem c_colat' (l : List Stop) (t : Int) (h8 : ∀ s ∈ l, P8 s.c) : CallsG Tryz.prog 208 [.sl stopE l, i64 t] [] (.agg (pixE (colAt l t))) [] := by
  refine calls_to tok mix Tryz.func208 rfl rfl rfl ?_
  have fin : ∀ {σ : SV} {q : Pix}, colAt l t = q → LE σ (.agg (pixE q)) → LE σ (.agg (pixE (colAt l t))) := fun e h => e ▸ h
  refine CallV.to _ (c_gvalid' l) rfl ?_
  refine Br.mk (fun h1 => ?_) (fun h1 => ?_)
  · exact fin (q := zeroP) (by rw [colAt, if_neg h1]) .refl
  have h1 := Decidable.not_not.1 h1
  have hl := h1.1
  refine ⟨Int × Int, fun ⟨i, k⟩ => ⟨[(0, .sl stopE l), (1, i64 t), (4, .loc 0 0), (5, i64 (k - 1)), (6, i64 i)], [(0, .box 31 (pixE zeroP))], 1, 72, 0⟩,
    fun (i, k) => 0 ≤ i ∧ i ≤ l.length ∧ 0 ≤ k ∧ k ≤ i ∧ (0 < k → ∃ y, l[(k - 1).toNat]? = some y ∧ y.o ≤ t) ∧ ∀ (j : Nat) s, k ≤ (j : Int) → (j : Int) < i → l[j]? = some s → t < s.o, fun (i, _) => ((l.length : Int) - i).toNat, (0, 0), ?_, ?_, ?_⟩
  · exact ⟨by omega, by omega, by omega, by omega, fun h => by omega, fun j s _ hj => by omega⟩
  · exact sub_of [(0, some 0)] rfl rfl rfl ⟨rfl, rfl, rfl, rfl, rfl, trivial⟩ ⟨rfl, trivial⟩
  rintro ⟨i, k⟩ ⟨g1, g2, g3, g4, g5, g6⟩
  intro hl2
  refine Br.mk (fun h5 => ?_) (fun h5 => ?_)
  · refine Ob.mk (by omega) ?_
    intro x hx
    refine Br.mk (fun h6 => ?_) (fun h6 => ?_)
    · refine Ar.fit (by omega) ?_
      refine ⟨(i + 1, i + 1), ⟨by omega, by omega, by omega, by omega, fun _ => ⟨x, by rw [show (i + 1 - 1).toNat = i.toNat by omega]; exact hx, h6⟩, fun j s hj hj2 => by omega⟩,
        sub_of [(0, some 0)] rfl rfl rfl ⟨rfl, rfl, rfl, congrArg (fun n => some (i64 n)) (by omega), rfl, trivial⟩ ⟨rfl, trivial⟩, by dsimp only; omega⟩
    · refine Ar.fit (by omega) ?_
      refine ⟨(i + 1, k), ⟨by omega, by omega, by omega, by omega, g5, fun j s hj hj2 hs => ?_⟩,
        sub_of [(0, some 0)] rfl rfl rfl ⟨rfl, rfl, rfl, rfl, rfl, trivial⟩ ⟨rfl, trivial⟩, by dsimp only; omega⟩
      by_cases e : j = i.toNat
      · subst e; rw [hx] at hs; cases hs; omega
      · exact g6 j s hj (by omega) hs
  · have hk : kAt t l = k.toNat := by
      refine kAt_unique (by omega) (fun j s hj hs => ?_) (fun s hs => g6 k.toNat s (by omega) ?_ hs)
      · obtain ⟨y, hy, hyt⟩ := g5 (by omega)
        have := upTo_le h1.2 (show j ≤ (k - 1).toNat by omega) hs hy
        omega
      · have := (List.getElem?_eq_some_iff.1 hs).1
        omega
    refine Br.mk (fun h7 => ?_) (fun h7 => ?_)
    · refine Ob.mk (by omega) ?_
      intro y hy
      refine fin (q := y.c) ?_ .refl
      rw [colAt, if_pos h1, if_pos (by omega), stAt_some (i := 0) hy]
    intro hl3
    refine Ar.fit (by omega) ?_
    refine Br.mk (fun h9 => ?_) (fun h9 => ?_)
    · refine Ob.mk (by omega) ?_
      intro y hy
      refine fin (q := y.c) ?_ .refl
      rw [colAt, if_pos h1, if_neg (by omega), if_pos (by omega), show kAt t l - 1 = (k - 1).toNat by omega, stAt_some hy]
    · refine Dr.mk (by decide +kernel) ?_
      refine Ob.mk (by omega) ?_
      intro y hy
      refine Ar.fit (by omega) ?_
      refine Ob.mk (by omega) ?_
      intro z hz
      have e1 : kAt t l - 1 = (k - 1).toNat := by omega
      have e2 : kAt t l = (k - 1 + 1).toNat := by omega
      have q1 := kAt_lt (t := t) (i := (k - 1).toNat) (by omega) hy
      have q2 := kAt_ge (t := t) (l := l) (s := z) (by rw [e2]; exact hz)
      have q3 := upTo_range h1.2 y (List.mem_of_getElem? hy)
      have q4 := upTo_range h1.2 z (List.mem_of_getElem? hz)
      refine Ob.mk (by omega) ?_
      intro y' hy'
      rw [hy] at hy'; cases hy'
      refine Ar.fit (by omega) ?_
      refine Ar.fit (by omega) ?_
      refine Ob.mk (by omega) ?_
      intro z' hz'
      rw [hz] at hz'; cases hz'
      refine Ob.mk (by omega) ?_
      intro y' hy'
      rw [hy] at hy'; cases hy'
      refine Ar.fit (by omega) ?_
      refine CallV.to _ (c_lerpc' y.c z.c (t - y.o) (z.o - y.o) (h8 y (List.mem_of_getElem? hy)) (h8 z (List.mem_of_getElem? hz)) (by omega) (by omega)) rfl ?_
      refine fin (q := lerpC y.c z.c (t - y.o) (z.o - y.o)) ?_ .refl
      rw [colAt, if_pos h1, if_neg (by omega), if_neg (by omega), e1, stAt_some hy, stAt_some (i := kAt t l) (by rw [e2]; exact hz)]

def spOK (m : Int) : Prop := 1 ≤ m ∧ m ≤ 3
instance (m : Int) : Decidable (spOK m) := inferInstanceAs (Decidable (_ ∧ _))
def spCol (l : List Stop) (m t : Int) : Pix := if spOK m then colAt l (spreadI t m) else zeroP
theorem spCol_8 {l : List Stop} {m t : Int} (h8 : ∀ s ∈ l, P8 s.c) : P8 (spCol l m t) := by
  unfold spCol; split
  · exact colAt_8 h8
  · exact P8_zero

theorem c_spcol (l : List Stop) (m t : Int) (h8 : ∀ s ∈ l, P8 s.c) : CallsG Tryz.prog 333 [.sl stopE l, i64 m, i64 t] [] (.agg (pixE (spCol l m t))) [] := by
  refine calls_to tok mix Tryz.func333 rfl rfl rfl ?_
  have fin : ∀ {σ : SV} {q : Pix}, spCol l m t = q → LE σ (.agg (pixE q)) → LE σ (.agg (pixE (spCol l m t))) := fun e h => e ▸ h
  refine Br.mk (fun h1 => ?_) (fun h1 => ?_)
  · exact fin (q := zeroP) (by rw [spCol, if_neg (fun h : spOK m => by unfold spOK at h; omega)]) .refl
  refine Br.mk (fun h2 => ?_) (fun h2 => ?_)
  · exact fin (q := zeroP) (by rw [spCol, if_neg (fun h : spOK m => by unfold spOK at h; omega)]) .refl
  refine CallV.to _ (c_spreadoff t m) rfl ?_
  refine CallV.to _ (c_colat l (spreadI t m) h8) rfl ?_
  exact fin (by rw [spCol, if_pos (show spOK m from ⟨by omega, by omega⟩)]) .refl

theorem c_spcol' (l : List Stop) (m t : Int) (h8 : ∀ s ∈ l, P8 s.c) : CallsG Tryz.prog 150 [.sl stopE l, i64 m, i64 t] [] (.agg (pixE (spCol l m t))) [] := by
  refine calls_to tok mix Tryz.func150 rfl rfl rfl ?_
  have fin : ∀ {σ : SV} {q : Pix}, spCol l m t = q → LE σ (.agg (pixE q)) → LE σ (.agg (pixE (spCol l m t))) := fun e h => e ▸ h
  have go : ∀ (_ : spOK m), LE (.agg (pixE (colAt l (spreadI t m)))) (.agg (pixE (spCol l m t))) := fun h => fin (by rw [spCol, if_pos h]) .refl
  refine Br.mk (fun h1 => ?_) (fun h1 => ?_)
  · refine Br.mk (fun h2 => ?_) (fun h2 => ?_)
    · refine Br.mk (fun h3 => ?_) (fun h3 => ?_)
      · exact fin (q := zeroP) (by rw [spCol, if_neg (fun h : spOK m => by unfold spOK at h; omega)]) .refl
      · refine CallV.to _ (c_spreadoff' t m) rfl ?_
        refine CallV.to _ (c_colat' l (spreadI t m) h8) rfl ?_
        exact go ⟨by omega, by omega⟩
    · refine CallV.to _ (c_spreadoff' t m) rfl ?_
      refine CallV.to _ (c_colat' l (spreadI t m) h8) rfl ?_
      exact go ⟨by omega, by omega⟩
  · refine CallV.to _ (c_spreadoff' t m) rfl ?_
    refine CallV.to _ (c_colat' l (spreadI t m) h8) rfl ?_
    exact go ⟨by omega, by omega⟩

end Go.Gs
/- Points that may be. -/
namespace Go.Gs
open Go.Proofs

structure Pt where
  x : Int
  y : Int
  deriving DecidableEq
def ptE (p : Pt) : List SV := [i64 p.x, i64 p.y]
def zp : Pt := ⟨0, 0⟩
def ptOK (p : Pt) : Prop := (-1048576 ≤ p.x ∧ p.x ≤ 1048576) ∧ (-1048576 ≤ p.y ∧ p.y ≤ 1048576)
instance (p : Pt) : Decidable (ptOK p) := inferInstanceAs (Decidable (_ ∧ _))
theorem pt_eq {p q : Pt} : (p.x = q.x ∧ p.y = q.y ∧ True) ↔ p = q := by
  cases p; cases q; simp
theorem c_held (n : Int) : CallsG Tryz.prog 242 [i64 n] [] (i64 (clampI n (-1048576) 1048576)) [] := by
  refine calls_to tok mix Tryz.func242 rfl rfl rfl ?_
  refine CallV.to _ (c_clamp n _ _) rfl ?_
  exact .refl

theorem c_hold (p : Pt) : CallsG Tryz.prog 178 [.agg (ptE p)] [] (.agg [i64 (clampI p.x (-1048576) 1048576), i64 (clampI p.y (-1048576) 1048576)]) [] := by
  refine calls_to tok mix Tryz.func178 rfl rfl rfl ?_
  refine Dr.mk (by decide +kernel) ?_
  refine CallV.to _ (c_held p.x) rfl ?_
  refine CallV.to _ (c_held p.y) rfl ?_
  exact .refl

theorem c_vvalid (p : Pt) : CallsG Tryz.prog 121 [.agg (ptE p)] [] (pr (ptOK p)) [] := by
  refine calls_to tok mix Tryz.func121 rfl rfl rfl ?_
  refine Dr.mk (by decide +kernel) ?_
  refine CallV.to _ (c_hold p) rfl ?_
  refine LE_pr (p := clampI p.x (-1048576) 1048576 = p.x ∧ clampI p.y (-1048576) 1048576 = p.y ∧ True) ?_
  rw [clamp_eq (by decide), clamp_eq (by decide)]
  exact ⟨fun h => ⟨h.1, h.2.1⟩, fun h => ⟨h.1, h.2, trivial⟩⟩

theorem c_ptvalid' (p : Pt) : CallsG Tryz.prog 210 [.agg (ptE p)] [] (pr (ptOK p)) [] := by
  refine calls_to tok mix Tryz.func210 rfl rfl rfl ?_
  refine Br.mk (fun h1 => ?_) (fun h1 => LE_false (fun h => h1 h.1.1))
  refine Br.mk (fun h2 => ?_) (fun h2 => LE_false (fun h => h2 h.1.2))
  refine Br.mk (fun h3 => ?_) (fun h3 => LE_false (fun h => h3 h.2.1))
  exact LE_pr ⟨fun h4 => ⟨⟨h1, h2⟩, ⟨h3, h4⟩⟩, fun h => h.2.2⟩

end Go.Gs
/- Positions held in a range; the way from a point. -/
namespace Go.Gs
open Go.Proofs

def cpI (z : Int) : Int := max (-1099511627776) (min 1099511627776 z)
theorem cpI_r64 (z : Int) : R64 (cpI z) := by unfold cpI R64; omega

theorem c_clamped (a : BI) (ha : a.mag.length ≤ 100000000) : CallsG Tryz.prog 244 [.agg (biE a)] [] (i64 (cpI a.v)) [] := by
  refine calls_deferred tok mix Tryz.func244 rfl rfl rfl rfl rfl rfl Tryz.func288 rfl rfl ?_
  refine ⟨_, rfl, rfl, rfl, ?_⟩
  refine CallV.to _ (z_toint a (by omega)) rfl ?_
  refine ⟨rfl, ?_⟩
  refine Br.mk (fun h => ?_) (fun h => ?_)
  · refine LE_int ?_
    show max (-1099511627776) (min 1099511627776 (fitI a.v)) = _
    have : fitI a.v = a.v := by unfold fitI; rw [if_pos h]
    rw [this]; rfl
  · refine CallV.to _ (z_sign a (by omega)) rfl ?_
    have hs := @Int.sign_neg_iff a.v
    refine Br.mk (fun h2 => ?_) (fun h2 => ?_)
    · exact LE_int (by unfold cpI; omega)
    · exact LE_int (by unfold cpI; omega)

theorem c_cpos (a : BI) (ha : a.mag.length ≤ 100000000) : CallsG Tryz.prog 183 [.agg (biE a)] [] (i64 (cpI a.v)) [] := by
  refine calls_to tok mix Tryz.func183 rfl rfl rfl ?_
  refine CallV.to _ (c_clamped a ha) rfl ?_
  exact .refl

theorem c_cpos' (a : BI) (ha : a.mag.length ≤ 100000000) : CallsG Tryz.prog 215 [.agg (biE a)] [] (i64 (cpI a.v)) [] := by
  refine calls_to tok mix Tryz.func215 rfl rfl rfl ?_
  have l1 : (ofZ 1099511627776).mag.length ≤ 2 := zlen_i64 (n := 1099511627776) (by decide)
  have l2 : (ofZ (-1099511627776)).mag.length ≤ 2 := zlen_i64 (n := -1099511627776) (by decide)
  refine Dr.mk (by decide +kernel) ?_
  refine CallV.to _ (r2_fromint 1099511627776 (by decide)) rfl ?_
  refine CallV.to _ (r2_cmp a (ofZ 1099511627776) (by omega) (by omega)) rfl ?_
  rw [ofZ_v]
  have e1 := @Int.sign_pos_iff (a.v - 1099511627776)
  refine Br.mk (fun h => ?_) (fun h => ?_)
  · exact LE_int (by unfold cpI; omega)
  refine Dr.mk (by decide +kernel) ?_
  refine Ar.fit (by omega) ?_
  refine CallV.to _ (r2_fromint (-1099511627776) (by decide)) rfl ?_
  refine CallV.to _ (r2_cmp a (ofZ (-1099511627776)) (by omega) (by omega)) rfl ?_
  rw [ofZ_v]
  have e2 := @Int.sign_neg_iff (a.v - -1099511627776)
  refine Br.mk (fun h2 => ?_) (fun h2 => ?_)
  · refine Ar.fit (by omega) ?_
    exact LE_int (by unfold cpI; omega)
  refine CallV.to _ (r2_toint a (by omega)) rfl ?_
  refine LE_int ?_
  unfold fitI cpI
  rw [if_pos (by omega)]; omega

theorem q_addQ (x y : Rat) (hx : qlen x ≤ 10000) (hy : qlen y ≤ 10000) : CallsG Tryz.prog 115 [.agg (brE (ofQ x)), .agg (brE (ofQ y))] [] (.agg (brE (ofQ (x + y)))) [] := by
  have h := q_add (ofQ x) (ofQ y) (by rw [ofQ_len]; omega) (by rw [ofQ_len]; omega)
  rwa [ofQ_v, ofQ_v] at h
theorem q_subQ (x y : Rat) (hx : qlen x ≤ 10000) (hy : qlen y ≤ 10000) : CallsG Tryz.prog 181 [.agg (brE (ofQ x)), .agg (brE (ofQ y))] [] (.agg (brE (ofQ (x - y)))) [] := by
  have h := q_sub (ofQ x) (ofQ y) (by rw [ofQ_len]; omega) (by rw [ofQ_len]; omega)
  rwa [ofQ_v, ofQ_v] at h
theorem q_mulQ (x y : Rat) (hx : qlen x ≤ 10000) (hy : qlen y ≤ 10000) : CallsG Tryz.prog 173 [.agg (brE (ofQ x)), .agg (brE (ofQ y))] [] (.agg (brE (ofQ (x * y)))) [] := by
  have h := q_mul (ofQ x) (ofQ y) (by rw [ofQ_len]; omega) (by rw [ofQ_len]; omega)
  rwa [ofQ_v, ofQ_v] at h
theorem q_quoQ (x y : Rat) (hx : qlen x ≤ 10000) (hy : qlen y ≤ 10000) (h0 : y ≠ 0) : CallsG Tryz.prog 136 [.agg (brE (ofQ x)), .agg (brE (ofQ y))] [] (.tup [.agg (brE (ofQ (x / y))), i64 0]) [] := by
  have h := q_quo (ofQ x) (ofQ y) (by rw [ofQ_len]; omega) (by rw [ofQ_len]; omega) (by rw [ofQ_v]; exact h0)
  rwa [ofQ_v, ofQ_v] at h
theorem r3_addQ (x y : Rat) (hx : qlen x ≤ 10000) (hy : qlen y ≤ 10000) : CallsG Tryz.prog 207 [.agg (brE (ofQ x)), .agg (brE (ofQ y))] [] (.agg (brE (ofQ (x + y)))) [] := by
  have h := r3_add (ofQ x) (ofQ y) (by rw [ofQ_len]; omega) (by rw [ofQ_len]; omega)
  rwa [ofQ_v, ofQ_v] at h
theorem r3_subQ (x y : Rat) (hx : qlen x ≤ 10000) (hy : qlen y ≤ 10000) : CallsG Tryz.prog 213 [.agg (brE (ofQ x)), .agg (brE (ofQ y))] [] (.agg (brE (ofQ (x - y)))) [] := by
  have h := r3_sub (ofQ x) (ofQ y) (by rw [ofQ_len]; omega) (by rw [ofQ_len]; omega)
  rwa [ofQ_v, ofQ_v] at h
theorem r3_mulQ (x y : Rat) (hx : qlen x ≤ 10000) (hy : qlen y ≤ 10000) : CallsG Tryz.prog 214 [.agg (brE (ofQ x)), .agg (brE (ofQ y))] [] (.agg (brE (ofQ (x * y)))) [] := by
  have h := r3_mul (ofQ x) (ofQ y) (by rw [ofQ_len]; omega) (by rw [ofQ_len]; omega)
  rwa [ofQ_v, ofQ_v] at h
theorem r3_quoQ (x y : Rat) (hx : qlen x ≤ 10000) (hy : qlen y ≤ 10000) (h0 : y ≠ 0) : CallsG Tryz.prog 153 [.agg (brE (ofQ x)), .agg (brE (ofQ y))] [] (.tup [.agg (brE (ofQ (x / y))), i64 0]) [] := by
  have h := r3_quo (ofQ x) (ofQ y) (by rw [ofQ_len]; omega) (by rw [ofQ_len]; omega) (by rw [ofQ_v]; exact h0)
  rwa [ofQ_v, ofQ_v] at h
theorem q_floorQ (x : Rat) (hx : qlen x ≤ 10000) : CallsG Tryz.prog 184 [.agg (brE (ofQ x))] [] (.agg (biE (ofZ x.floor))) [] := by
  have h := q_floor (ofQ x) (by rw [ofQ_len]; omega)
  rwa [ofQ_v] at h
theorem r3_floorQ (x : Rat) (hx : qlen x ≤ 10000) : CallsG Tryz.prog 216 [.agg (brE (ofQ x))] [] (.agg (biE (ofZ x.floor))) [] := by
  have h := r3_floor (ofQ x) (by rw [ofQ_len]; omega)
  rwa [ofQ_v] at h
theorem r32_dot (x y u v : Rat) (hx : qlen x ≤ 1000) (hy : qlen y ≤ 1000) (hu : qlen u ≤ 1000) (hv : qlen v ≤ 1000) :
    CallsG Tryz.prog 212 [.agg (brE (ofQ x)), .agg (brE (ofQ y)), .agg (brE (ofQ u)), .agg (brE (ofQ v))] [] (.agg (brE (ofQ (x * u + y * v)))) [] := by
  have h1 := qlen_mul x u
  have h2 := qlen_mul y v
  refine calls_to tok mix Tryz.func212 rfl rfl rfl ?_
  refine Dr.mk (by decide +kernel) ?_
  refine CallV.to _ (r3_mulQ x u (by omega) (by omega)) rfl ?_
  refine CallV.to _ (r3_mulQ y v (by omega) (by omega)) rfl ?_
  refine CallV.to _ (r3_addQ (x * u) (y * v) (by omega) (by omega)) rfl ?_
  exact .refl

theorem qlen_i64 {n : Int} (h : R64 n) : qlen (n : Rat) ≤ 2 := by
  have h1 := qlen_int n
  have h2 := zlen_i64 h
  omega

theorem c_offset (a : Pt) (x y : Rat) (ha : ptOK a) (hx : qlen x ≤ 1000) (hy : qlen y ≤ 1000) :
    CallsG Tryz.prog 182 [.agg (ptE a), .agg (brE (ofQ x)), .agg (brE (ofQ y))] [] (.tup [.agg (brE (ofQ (x - (a.x : Rat)))), .agg (brE (ofQ (y - (a.y : Rat))))]) [] := by
  have rx : R64 a.x := by unfold R64; have := ha.1; omega
  have ry : R64 a.y := by unfold R64; have := ha.2; omega
  have lx := qlen_i64 rx
  have ly := qlen_i64 ry
  refine calls_to tok mix Tryz.func182 rfl rfl rfl ?_
  refine Dr.mk (by decide +kernel) ?_
  refine CallV.to _ (q_fromint a.x rx) rfl ?_
  refine CallV.to _ (q_subQ x (a.x : Rat) (by omega) (by omega)) rfl ?_
  refine CallV.to _ (q_fromint a.y ry) rfl ?_
  refine CallV.to _ (q_subQ y (a.y : Rat) (by omega) (by omega)) rfl ?_
  exact .refl

end Go.Gs
/- Positions along a line and by the distance from a point. -/
namespace Go.Gs
open Go.Proofs

theorem sq_pos {u v : Int} (h : ¬ (u = 0 ∧ v = 0)) : 1 ≤ u * u + v * v := by
  have hu := Int.natAbs_mul_self (a := u)
  have hv := Int.natAbs_mul_self (a := v)
  rcases Nat.eq_zero_or_pos u.natAbs with h1 | h1
  · rcases Nat.eq_zero_or_pos v.natAbs with h2 | h2
    · exact absurd ⟨by omega, by omega⟩ h
    · have := Nat.mul_pos h2 h2; omega
  · have := Nat.mul_pos h1 h1; omega
theorem sq_le {u : Int} (h : -2097152 ≤ u ∧ u ≤ 2097152) : 0 ≤ u * u ∧ u * u ≤ 4398046511104 := by
  have hu := Int.natAbs_mul_self (a := u)
  have : u.natAbs * u.natAbs ≤ 2097152 * 2097152 := Nat.mul_le_mul (by omega) (by omega)
  omega

def linF (a b : Pt) (x y : Rat) : Rat :=
  ((65536 : Int) : Rat) * ((x - (a.x : Rat)) * ((b.x - a.x : Int) : Rat) + (y - (a.y : Rat)) * ((b.y - a.y : Int) : Rat)) / (((b.x - a.x) * (b.x - a.x) + (b.y - a.y) * (b.y - a.y) : Int) : Rat)
def linP (a b : Pt) (x y : Rat) : Int := if a ≠ b ∧ ptOK a ∧ ptOK b then cpI (linF a b x y).floor else 65536

theorem lin_len {a b : Pt} {x y : Rat} (ha : ptOK a) (hb : ptOK b) (hne : a ≠ b) (hx : qlen x ≤ 100) (hy : qlen y ≤ 100) :
    (R64 a.x ∧ R64 a.y) ∧ (R64 (b.x - a.x) ∧ R64 (b.y - a.y)) ∧ (0 ≤ (b.x - a.x) * (b.x - a.x) ∧ (b.x - a.x) * (b.x - a.x) ≤ 4398046511104) ∧ (0 ≤ (b.y - a.y) * (b.y - a.y) ∧ (b.y - a.y) * (b.y - a.y) ≤ 4398046511104) ∧
    1 ≤ (b.x - a.x) * (b.x - a.x) + (b.y - a.y) * (b.y - a.y) ∧
    qlen (x - (a.x : Rat)) ≤ 103 ∧ qlen (y - (a.y : Rat)) ≤ 103 ∧ qlen ((b.x - a.x : Int) : Rat) ≤ 2 ∧ qlen ((b.y - a.y : Int) : Rat) ≤ 2 ∧
    qlen ((x - (a.x : Rat)) * ((b.x - a.x : Int) : Rat) + (y - (a.y : Rat)) * ((b.y - a.y : Int) : Rat)) ≤ 250 ∧
    qlen (((b.x - a.x) * (b.x - a.x) + (b.y - a.y) * (b.y - a.y) : Int) : Rat) ≤ 2 ∧ qlen (linF a b x y) ≤ 260 := by
  have hax := ha.1
  have hay := ha.2
  have hbx := hb.1
  have hby := hb.2
  have ru : R64 (b.x - a.x) := by unfold R64; omega
  have rv : R64 (b.y - a.y) := by unfold R64; omega
  have rx : R64 a.x := by unfold R64; omega
  have ry : R64 a.y := by unfold R64; omega
  have su := sq_le (u := b.x - a.x) (by omega)
  have sv := sq_le (u := b.y - a.y) (by omega)
  have hs := sq_pos (u := b.x - a.x) (v := b.y - a.y) (fun h => hne (pt_eq.1 ⟨by omega, by omega, trivial⟩))
  have rs : R64 ((b.x - a.x) * (b.x - a.x) + (b.y - a.y) * (b.y - a.y)) := by unfold R64; omega
  have l1 := qlen_sub x (a.x : Rat)
  have l2 := qlen_sub y (a.y : Rat)
  have l3 := qlen_i64 rx
  have l4 := qlen_i64 ry
  have l5 := qlen_i64 ru
  have l6 := qlen_i64 rv
  have l7 := qlen_i64 rs
  have l8 := qlen_mul (x - (a.x : Rat)) ((b.x - a.x : Int) : Rat)
  have l9 := qlen_mul (y - (a.y : Rat)) ((b.y - a.y : Int) : Rat)
  have l10 := qlen_add ((x - (a.x : Rat)) * ((b.x - a.x : Int) : Rat)) ((y - (a.y : Rat)) * ((b.y - a.y : Int) : Rat))
  have l11 := qlen_mul ((65536 : Int) : Rat) ((x - (a.x : Rat)) * ((b.x - a.x : Int) : Rat) + (y - (a.y : Rat)) * ((b.y - a.y : Int) : Rat))
  have l12 := qlen_i64 (n := 65536) (by decide)
  have hne0 : (((b.x - a.x) * (b.x - a.x) + (b.y - a.y) * (b.y - a.y) : Int) : Rat) ≠ 0 := fun h => by
    have := Rat.intCast_inj.1 (h.trans Rat.intCast_zero.symm); omega
  have l13 := qlen_div (((65536 : Int) : Rat) * ((x - (a.x : Rat)) * ((b.x - a.x : Int) : Rat) + (y - (a.y : Rat)) * ((b.y - a.y : Int) : Rat))) _ hne0
  refine ⟨⟨rx, ry⟩, ⟨ru, rv⟩, su, sv, hs, by omega, by omega, l5, l6, by omega, l7, ?_⟩
  unfold linF
  omega

theorem int_ne {z : Int} (h : 1 ≤ z) : (z : Rat) ≠ 0 := fun k => by
  have := Rat.intCast_inj.1 (k.trans Rat.intCast_zero.symm); omega

theorem c_linpos (a b : Pt) (x y : Rat) (hx : qlen x ≤ 100) (hy : qlen y ≤ 100) :
    CallsG Tryz.prog 128 [.agg (ptE a), .agg (ptE b), .agg (brE (ofQ x)), .agg (brE (ofQ y))] [] (i64 (linP a b x y)) [] := by
  refine calls_to tok mix Tryz.func128 rfl rfl rfl ?_
  refine Br.mk (fun h1 => LE_int (by rw [linP, if_neg (fun k => k.1 (pt_eq.1 h1))])) (fun h1 => ?_)
  refine CallV.to _ (c_vvalid a) rfl ?_
  refine Br.mk (fun h2 => LE_int (by rw [linP, if_neg (fun k => h2 k.2.1)])) (fun h2 => ?_)
  refine CallV.to _ (c_vvalid b) rfl ?_
  refine Br.mk (fun h3 => LE_int (by rw [linP, if_neg (fun k => h3 k.2.2)])) (fun h3 => ?_)
  have ha := Decidable.not_not.1 h2
  have hb := Decidable.not_not.1 h3
  have hne : a ≠ b := fun k => h1 (pt_eq.2 k)
  obtain ⟨⟨l1, l2⟩, ⟨l3, l4⟩, l5, l6, l7, l8, l9, l10, l11, l12, l13, l14⟩ := lin_len ha hb hne hx hy
  refine Dr.mk (by decide +kernel) ?_
  have hax := ha.1
  have hay := ha.2
  have hbx := hb.1
  have hby := hb.2
  refine Ar.fit (by omega) ?_
  refine Ar.fit (by omega) ?_
  refine CallV.to _ (c_offset a x y ha (by omega) (by omega)) rfl ?_
  refine Dr.mk (by decide +kernel) ?_
  refine CallV.to _ (q_fromint (b.x - a.x) l3) rfl ?_
  refine CallV.to _ (q_mulQ (x - (a.x : Rat)) ((b.x - a.x : Int) : Rat) (by omega) (by omega)) rfl ?_
  refine CallV.to _ (q_fromint (b.y - a.y) l4) rfl ?_
  refine CallV.to _ (q_mulQ (y - (a.y : Rat)) ((b.y - a.y : Int) : Rat) (by omega) (by omega)) rfl ?_
  have m1 := qlen_mul (x - (a.x : Rat)) ((b.x - a.x : Int) : Rat)
  have m2 := qlen_mul (y - (a.y : Rat)) ((b.y - a.y : Int) : Rat)
  refine CallV.to _ (q_addQ _ _ (by omega) (by omega)) rfl ?_
  refine Dr.mk (by decide +kernel) ?_
  have l65 := qlen_i64 (n := 65536) (by decide)
  refine CallV.to _ (q_fromint 65536 (by decide)) rfl ?_
  refine CallV.to _ (q_mulQ ((65536 : Int) : Rat) _ (by omega) (by omega)) rfl ?_
  refine Ar.fit (by omega) ?_
  refine Ar.fit (by omega) ?_
  refine Ar.fit (by omega) ?_
  refine CallV.to _ (q_fromint ((b.x - a.x) * (b.x - a.x) + (b.y - a.y) * (b.y - a.y)) (by unfold R64; omega)) rfl ?_
  have m3 := qlen_mul ((65536 : Int) : Rat) ((x - (a.x : Rat)) * ((b.x - a.x : Int) : Rat) + (y - (a.y : Rat)) * ((b.y - a.y : Int) : Rat))
  refine CallV.to _ (q_quoQ (((65536 : Int) : Rat) * ((x - (a.x : Rat)) * ((b.x - a.x : Int) : Rat) + (y - (a.y : Rat)) * ((b.y - a.y : Int) : Rat))) (((b.x - a.x) * (b.x - a.x) + (b.y - a.y) * (b.y - a.y) : Int) : Rat) (by omega) (by omega) (int_ne l7)) rfl ?_
  refine CallV.to _ (q_floorQ (linF a b x y) (by omega)) rfl ?_
  refine CallV.to _ (c_cpos (ofZ (linF a b x y).floor) (by have := floor_len (linF a b x y); show zlen _ ≤ _; omega)) rfl ?_
  exact LE_int (by rw [linP, if_pos ⟨hne, ha, hb⟩, ofZ_v])

theorem c_hold' (p : Pt) : CallsG Tryz.prog 263 [.agg (ptE p)] [] (.agg [i64 (clampI p.x (-1048576) 1048576), i64 (clampI p.y (-1048576) 1048576)]) [] := by
  refine calls_to tok mix Tryz.func263 rfl rfl rfl ?_
  refine Dr.mk (by decide +kernel) ?_
  refine CallV.to _ (c_clamp' p.x _ _) rfl ?_
  refine CallV.to _ (c_clamp' p.y _ _) rfl ?_
  exact .refl

theorem c_psub' (p q : Pt) (hp : ptOK p) (hq : ptOK q) : CallsG Tryz.prog 211 [.agg (ptE p), .agg (ptE q)] [] (.agg (ptE ⟨p.x - q.x, p.y - q.y⟩)) [] := by
  refine calls_to tok mix Tryz.func211 rfl rfl rfl ?_
  have h1 := (clamp_eq (n := p.x) (lo := -1048576) (hi := 1048576) (by decide)).2 hp.1
  have h2 := (clamp_eq (n := p.y) (lo := -1048576) (hi := 1048576) (by decide)).2 hp.2
  have h3 := (clamp_eq (n := q.x) (lo := -1048576) (hi := 1048576) (by decide)).2 hq.1
  have h4 := (clamp_eq (n := q.y) (lo := -1048576) (hi := 1048576) (by decide)).2 hq.2
  have c1 := c_hold' p
  have c2 := c_hold' q
  rw [h1, h2] at c1
  rw [h3, h4] at c2
  have := hp.1
  have := hp.2
  have := hq.1
  have := hq.2
  refine Dr.mk (by decide +kernel) ?_
  refine CallV.to _ c1 rfl ?_
  refine CallV.to _ c2 rfl ?_
  refine Ar.fit (by omega) ?_
  refine Ar.fit (by omega) ?_
  exact .refl

theorem c_linpos' (a b : Pt) (x y : Rat) (hx : qlen x ≤ 100) (hy : qlen y ≤ 100) :
    CallsG Tryz.prog 151 [.agg (ptE a), .agg (ptE b), .agg (brE (ofQ x)), .agg (brE (ofQ y))] [] (i64 (linP a b x y)) [] := by
  refine calls_to tok mix Tryz.func151 rfl rfl rfl ?_
  refine CallV.to _ (c_ptvalid' a) rfl ?_
  refine Br.mk (fun h2 => LE_int (by rw [linP, if_neg (fun k => h2 k.2.1)])) (fun h2 => ?_)
  refine CallV.to _ (c_ptvalid' b) rfl ?_
  refine Br.mk (fun h3 => LE_int (by rw [linP, if_neg (fun k => h3 k.2.2)])) (fun h3 => ?_)
  refine Br.mk (fun h1 => LE_int (by rw [linP, if_neg (fun k => k.1 (pt_eq.1 h1))])) (fun h1 => ?_)
  have ha := Decidable.not_not.1 h2
  have hb := Decidable.not_not.1 h3
  have hne : a ≠ b := fun k => h1 (pt_eq.2 k)
  obtain ⟨⟨l1, l2⟩, ⟨l3, l4⟩, l5, l6, l7, l8, l9, l10, l11, l12, l13, l14⟩ := lin_len ha hb hne hx hy
  have lx := qlen_i64 l1
  have ly := qlen_i64 l2
  refine CallV.to _ (c_psub' b a hb ha) rfl ?_
  refine Dr.mk (by decide +kernel) ?_
  refine CallV.to _ (r3_fromInt (b.x - a.x) l3) rfl ?_
  refine CallV.to _ (r3_fromInt (b.y - a.y) l4) rfl ?_
  refine Dr.mk (by decide +kernel) ?_
  refine CallV.to _ (r3_fromInt a.x l1) rfl ?_
  refine CallV.to _ (r3_subQ x (a.x : Rat) (by omega) (by omega)) rfl ?_
  refine CallV.to _ (r3_fromInt a.y l2) rfl ?_
  refine CallV.to _ (r3_subQ y (a.y : Rat) (by omega) (by omega)) rfl ?_
  refine CallV.to _ (r32_dot (x - (a.x : Rat)) (y - (a.y : Rat)) ((b.x - a.x : Int) : Rat) ((b.y - a.y : Int) : Rat) (by omega) (by omega) (by omega) (by omega)) rfl ?_
  refine Dr.mk (by decide +kernel) ?_
  have l65 := qlen_i64 (n := 65536) (by decide)
  refine CallV.to _ (r3_fromInt 65536 (by decide)) rfl ?_
  refine CallV.to _ (r3_mulQ ((65536 : Int) : Rat) _ (by omega) (by omega)) rfl ?_
  have hd := r32_dot ((b.x - a.x : Int) : Rat) ((b.y - a.y : Int) : Rat) ((b.x - a.x : Int) : Rat) ((b.y - a.y : Int) : Rat) (by omega) (by omega) (by omega) (by omega)
  rw [← Rat.intCast_mul, ← Rat.intCast_mul, ← Rat.intCast_add] at hd
  refine CallV.to _ hd rfl ?_
  have m3 := qlen_mul ((65536 : Int) : Rat) ((x - (a.x : Rat)) * ((b.x - a.x : Int) : Rat) + (y - (a.y : Rat)) * ((b.y - a.y : Int) : Rat))
  refine CallV.to _ (r3_quoQ (((65536 : Int) : Rat) * ((x - (a.x : Rat)) * ((b.x - a.x : Int) : Rat) + (y - (a.y : Rat)) * ((b.y - a.y : Int) : Rat))) (((b.x - a.x) * (b.x - a.x) + (b.y - a.y) * (b.y - a.y) : Int) : Rat) (by omega) (by omega) (int_ne l7)) rfl ?_
  refine CallV.to _ (r3_floorQ (linF a b x y) (by omega)) rfl ?_
  refine CallV.to _ (c_cpos' (ofZ (linF a b x y).floor) (by have := floor_len (linF a b x y); show zlen _ ≤ _; omega)) rfl ?_
  exact LE_int (by rw [linP, if_pos ⟨hne, ha, hb⟩, ofZ_v])

end Go.Gs
/- Positions by the distance from a point. -/
namespace Go.Gs
open Go.Proofs

def radF (c : Pt) (r : Int) (x y : Rat) : Rat :=
  ((4294967296 : Int) : Rat) * ((x - (c.x : Rat)) * (x - (c.x : Rat)) + (y - (c.y : Rat)) * (y - (c.y : Rat))) / ((r * r : Int) : Rat)
def radP (c : Pt) (r : Int) (x y : Rat) : Int := if (1 ≤ r ∧ r ≤ 1048576) ∧ ptOK c then cpI ((isq (radF c r x y).floor.natAbs : Nat) : Int) else 65536

theorem rad_len {c : Pt} {r : Int} {x y : Rat} (hc : ptOK c) (hr : 1 ≤ r ∧ r ≤ 1048576) (hx : qlen x ≤ 40) (hy : qlen y ≤ 40) :
    (R64 c.x ∧ R64 c.y) ∧ (1 ≤ r * r ∧ r * r ≤ 4398046511104) ∧ qlen (x - (c.x : Rat)) ≤ 43 ∧ qlen (y - (c.y : Rat)) ≤ 43 ∧
    qlen ((x - (c.x : Rat)) * (x - (c.x : Rat))) ≤ 86 ∧ qlen ((y - (c.y : Rat)) * (y - (c.y : Rat))) ≤ 86 ∧
    qlen ((x - (c.x : Rat)) * (x - (c.x : Rat)) + (y - (c.y : Rat)) * (y - (c.y : Rat))) ≤ 173 ∧
    qlen (((4294967296 : Int) : Rat) * ((x - (c.x : Rat)) * (x - (c.x : Rat)) + (y - (c.y : Rat)) * (y - (c.y : Rat)))) ≤ 175 ∧
    qlen ((r * r : Int) : Rat) ≤ 2 ∧ qlen (radF c r x y) ≤ 180 ∧ (digs (radF c r x y).floor.natAbs).length ≤ 180 ∧ (digs (isq (radF c r x y).floor.natAbs)).length ≤ 180 := by
  have hcx := hc.1
  have hcy := hc.2
  have rx : R64 c.x := by unfold R64; omega
  have ry : R64 c.y := by unfold R64; omega
  have h1 : 1 ≤ r * r := by have := sq_pos (u := r) (v := 0) (by omega); omega
  have h2 : r * r ≤ 4398046511104 := (sq_le (by omega)).2
  have rr : R64 (r * r) := by unfold R64; omega
  have l1 := qlen_sub x (c.x : Rat)
  have l2 := qlen_sub y (c.y : Rat)
  have l3 := qlen_i64 rx
  have l4 := qlen_i64 ry
  have l5 := qlen_i64 rr
  have l6 := qlen_mul (x - (c.x : Rat)) (x - (c.x : Rat))
  have l7 := qlen_mul (y - (c.y : Rat)) (y - (c.y : Rat))
  have l8 := qlen_add ((x - (c.x : Rat)) * (x - (c.x : Rat))) ((y - (c.y : Rat)) * (y - (c.y : Rat)))
  have l9 := qlen_mul ((4294967296 : Int) : Rat) ((x - (c.x : Rat)) * (x - (c.x : Rat)) + (y - (c.y : Rat)) * (y - (c.y : Rat)))
  have l10 := qlen_i64 (n := 4294967296) (by decide)
  have l11 := qlen_div (((4294967296 : Int) : Rat) * ((x - (c.x : Rat)) * (x - (c.x : Rat)) + (y - (c.y : Rat)) * (y - (c.y : Rat)))) _ (int_ne h1)
  have l12 : qlen (radF c r x y) ≤ 180 := by unfold radF; omega
  have l13 : (digs (radF c r x y).floor.natAbs).length ≤ 180 := Nat.le_trans (floor_len _) l12
  refine ⟨⟨rx, ry⟩, ⟨h1, h2⟩, by omega, by omega, by omega, by omega, by omega, by omega, l5, l12, l13, Nat.le_trans (digs_mono ?_) l13⟩
  have hs := (isq_spec (radF c r x y).floor.natAbs).1
  rcases Nat.eq_zero_or_pos (isq (radF c r x y).floor.natAbs) with h0 | h0
  · omega
  · exact Nat.le_trans (Nat.le_mul_of_pos_left _ h0) hs

theorem c_radpos (c : Pt) (r : Int) (x y : Rat) (hx : qlen x ≤ 40) (hy : qlen y ≤ 40) :
    CallsG Tryz.prog 130 [.agg (ptE c), i64 r, .agg (brE (ofQ x)), .agg (brE (ofQ y))] [] (i64 (radP c r x y)) [] := by
  refine calls_to tok mix Tryz.func130 rfl rfl rfl ?_
  refine Br.mk (fun h1 => LE_int (by rw [radP, if_neg (fun k => by have := k.1.1; omega)])) (fun h1 => ?_)
  refine Br.mk (fun h2 => LE_int (by rw [radP, if_neg (fun k => by have := k.1.2; omega)])) (fun h2 => ?_)
  refine CallV.to _ (c_vvalid c) rfl ?_
  refine Br.mk (fun h3 => LE_int (by rw [radP, if_neg (fun k => h3 k.2)])) (fun h3 => ?_)
  have hc := Decidable.not_not.1 h3
  obtain ⟨⟨l1, l2⟩, l3, l4, l5, l6, l7, l8, l9, l10, l11, l12, l13⟩ := rad_len (r := r) hc (by omega) hx hy
  refine CallV.to _ (c_offset c x y hc (by omega) (by omega)) rfl ?_
  refine Dr.mk (by decide +kernel) ?_
  refine CallV.to _ (q_mulQ (x - (c.x : Rat)) (x - (c.x : Rat)) (by omega) (by omega)) rfl ?_
  refine CallV.to _ (q_mulQ (y - (c.y : Rat)) (y - (c.y : Rat)) (by omega) (by omega)) rfl ?_
  refine CallV.to _ (q_addQ _ _ (by omega) (by omega)) rfl ?_
  refine Dr.mk (by decide +kernel) ?_
  have l65 := qlen_i64 (n := 4294967296) (by decide)
  refine CallV.to _ (q_fromint 4294967296 (by decide)) rfl ?_
  refine CallV.to _ (q_mulQ ((4294967296 : Int) : Rat) _ (by omega) (by omega)) rfl ?_
  refine Ar.fit (by omega) ?_
  refine CallV.to _ (q_fromint (r * r) (by unfold R64; omega)) rfl ?_
  refine CallV.to _ (q_quoQ (((4294967296 : Int) : Rat) * ((x - (c.x : Rat)) * (x - (c.x : Rat)) + (y - (c.y : Rat)) * (y - (c.y : Rat)))) ((r * r : Int) : Rat) (by omega) (by omega) (int_ne l3.1)) rfl ?_
  refine CallV.to _ (q_floorQ (radF c r x y) (by omega)) rfl ?_
  have hs := n_sqrt (digs (radF c r x y).floor.natAbs) (by omega)
  rw [val_digs] at hs
  refine CallV.to _ hs rfl ?_
  have hn := z_newF (digs (isq (radF c r x y).floor.natAbs)) (by omega)
  rw [val_digs] at hn
  refine CallV.to _ hn rfl ?_
  refine CallV.to _ (c_cpos (ofZ ((isq (radF c r x y).floor.natAbs : Nat) : Int)) (by show (digs _).length ≤ _; rw [Int.natAbs_natCast]; omega)) rfl ?_
  exact LE_int (by rw [radP, if_pos ⟨by omega, hc⟩, ofZ_v])

theorem c_radpos' (c : Pt) (r : Int) (x y : Rat) (hx : qlen x ≤ 40) (hy : qlen y ≤ 40) :
    CallsG Tryz.prog 152 [.agg (ptE c), i64 r, .agg (brE (ofQ x)), .agg (brE (ofQ y))] [] (i64 (radP c r x y)) [] := by
  refine calls_to tok mix Tryz.func152 rfl rfl rfl ?_
  refine CallV.to _ (c_ptvalid' c) rfl ?_
  refine Br.mk (fun h3 => LE_int (by rw [radP, if_neg (fun k => h3 k.2)])) (fun h3 => ?_)
  refine Br.mk (fun h1 => LE_int (by rw [radP, if_neg (fun k => by have := k.1.1; omega)])) (fun h1 => ?_)
  refine Br.mk (fun h2 => LE_int (by rw [radP, if_neg (fun k => by have := k.1.2; omega)])) (fun h2 => ?_)
  have hc := Decidable.not_not.1 h3
  obtain ⟨⟨l1, l2⟩, l3, l4, l5, l6, l7, l8, l9, l10, l11, l12, l13⟩ := rad_len (r := r) hc (by omega) hx hy
  have lx := qlen_i64 l1
  have ly := qlen_i64 l2
  refine Dr.mk (by decide +kernel) ?_
  refine CallV.to _ (r3_fromInt c.x l1) rfl ?_
  refine CallV.to _ (r3_subQ x (c.x : Rat) (by omega) (by omega)) rfl ?_
  refine CallV.to _ (r3_fromInt c.y l2) rfl ?_
  refine CallV.to _ (r3_subQ y (c.y : Rat) (by omega) (by omega)) rfl ?_
  refine Dr.mk (by decide +kernel) ?_
  have l65 := qlen_i64 (n := 4294967296) (by decide)
  refine CallV.to _ (r3_fromInt 4294967296 (by decide)) rfl ?_
  refine CallV.to _ (r32_dot (x - (c.x : Rat)) (y - (c.y : Rat)) (x - (c.x : Rat)) (y - (c.y : Rat)) (by omega) (by omega) (by omega) (by omega)) rfl ?_
  refine CallV.to _ (r3_mulQ ((4294967296 : Int) : Rat) _ (by omega) (by omega)) rfl ?_
  refine Ar.fit (by omega) ?_
  refine CallV.to _ (r3_fromInt (r * r) (by unfold R64; omega)) rfl ?_
  refine CallV.to _ (r3_quoQ (((4294967296 : Int) : Rat) * ((x - (c.x : Rat)) * (x - (c.x : Rat)) + (y - (c.y : Rat)) * (y - (c.y : Rat)))) ((r * r : Int) : Rat) (by omega) (by omega) (int_ne l3.1)) rfl ?_
  refine CallV.to _ (r3_floorQ (radF c r x y) (by omega)) rfl ?_
  have hs := r1_sqrt (digs (radF c r x y).floor.natAbs) (by omega)
  rw [val_digs] at hs
  refine CallV.to _ hs rfl ?_
  have hn := r2_newF (digs (isq (radF c r x y).floor.natAbs)) (by omega)
  rw [val_digs] at hn
  refine CallV.to _ hn rfl ?_
  refine CallV.to _ (c_cpos' (ofZ ((isq (radF c r x y).floor.natAbs : Nat) : Int)) (by show (digs _).length ≤ _; rw [Int.natAbs_natCast]; omega)) rfl ?_
  exact LE_int (by rw [radP, if_pos ⟨by omega, hc⟩, ofZ_v])

end Go.Gs
