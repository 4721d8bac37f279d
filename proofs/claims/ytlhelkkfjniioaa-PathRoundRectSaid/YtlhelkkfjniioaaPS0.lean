/- Rectangles with round corners: what the path is, both texts. (printed by mkS.py) -/
import Derived.Test.YtlhelkkfjniioaaPR
import Derived.Test.YtlhelkkfjniioaaPI
import Derived.Test.YtlhelkkfjniioaaPN8
namespace Go.Gs
open Go.Proofs

theorem c_may (n : Int) : CallsG Try.prog 100 [i64 n] [] (pr (inR n)) [] := by
  refine calls_to tok mix Try.func100 rfl rfl rfl ?_
  refine Br.mk (fun h => LE_pr ⟨fun h2 => ⟨h, h2⟩, fun h2 => h2.2⟩) (fun h => LE_false fun h2 => h h2.1)
theorem c_rvalid (a b c d : Int) : CallsG Try.prog 85 [.agg (reE a b c d)] [] (pr (inR a ∧ inR b ∧ inR c ∧ inR d)) [] := by
  refine calls_to tok mix Try.func85 rfl rfl rfl ?_
  refine CallV.to _ (c_may a) rfl ?_
  refine Br.mk (fun h1 => ?_) (fun h1 => LE_false fun h => h1 h.1)
  refine CallV.to _ (c_may b) rfl ?_
  refine Br.mk (fun h2 => ?_) (fun h2 => LE_false fun h => h2 h.2.1)
  refine CallV.to _ (c_may c) rfl ?_
  refine Br.mk (fun h3 => ?_) (fun h3 => LE_false fun h => h3 h.2.2.1)
  refine CallV.to _ (c_may d) rfl ?_
  exact LE_pr ⟨fun h => ⟨h1, h2, h3, h⟩, fun h => h.2.2.2⟩
theorem c_rempty (a b c d : Int) : CallsG Try.prog 60 [.agg (reE a b c d)] [] (pr (¬ rok a b c d)) [] := by
  refine calls_to tok mix Try.func60 rfl rfl rfl ?_
  refine CallV.to _ (c_rvalid a b c d) rfl ?_
  refine Br.mk (fun h => LE_true fun k => h ⟨k.1, k.2.1, k.2.2.1, k.2.2.2.1⟩) (fun h => ?_)
  have h := Decidable.not_not.1 h
  refine Br.mk (fun h1 => LE_true fun k => by have := k.2.2.2.2.1; omega) (fun h1 => ?_)
  refine LE_pr ⟨fun h2 k => by have := k.2.2.2.2.2; omega, fun h2 => ?_⟩
  by_cases h3 : d ≤ b
  · exact h3
  · exact absurd ⟨h.1, h.2.1, h.2.2.1, h.2.2.2, by omega, by omega⟩ h2

def rrL (x0 y0 x1 y1 D k : Int) : List Sg := [⟨1, ⟨x0 + D, y0⟩, zp, zp⟩,
  ⟨2, ⟨x1 - D, y0⟩, zp, zp⟩, ⟨4, ⟨x1 - D + k, y0⟩, ⟨x1, y0 + D - k⟩, ⟨x1, y0 + D⟩⟩,
  ⟨2, ⟨x1, y1 - D⟩, zp, zp⟩, ⟨4, ⟨x1, y1 - D + k⟩, ⟨x1 - D + k, y1⟩, ⟨x1 - D, y1⟩⟩,
  ⟨2, ⟨x0 + D, y1⟩, zp, zp⟩, ⟨4, ⟨x0 + D - k, y1⟩, ⟨x0, y1 - D + k⟩, ⟨x0, y1 - D⟩⟩,
  ⟨2, ⟨x0, y0 + D⟩, zp, zp⟩, ⟨4, ⟨x0, y0 + D - k⟩, ⟨x0 + D - k, y0⟩, ⟨x0 + D, y0⟩⟩, closeS]
def rrd (x0 y0 x1 y1 rad : Int) : Int := clampI rad 0 (min (x1 - x0) (y1 - y0) / 2)
def rr (a b c d rad : Int) : List Sg := if rok a b c d then (if rrd (a * 256) (b * 256) (c * 256) (d * 256) rad = 0 then rectL a b c d
  else rrL (a * 256) (b * 256) (c * 256) (d * 256) (rrd (a * 256) (b * 256) (c * 256) (d * 256) rad) (rdiv (36195 * rrd (a * 256) (b * 256) (c * 256) (d * 256) rad) 65536)) else []

theorem rrd_facts {x0 y0 x1 y1 rad : Int} (h1 : x0 < x1) (h2 : y0 < y1) : 0 ≤ rrd x0 y0 x1 y1 rad ∧ 2 * rrd x0 y0 x1 y1 rad ≤ x1 - x0 ∧ 2 * rrd x0 y0 x1 y1 rad ≤ y1 - y0 := by
  unfold rrd clampI
  split
  · omega
  · split <;> omega
theorem rrk_facts {D : Int} (h : 0 ≤ D) (h2 : D ≤ 2097152) : 0 ≤ rdiv (36195 * D) 65536 ∧ rdiv (36195 * D) 65536 ≤ D ∧ fitI (rdiv (36195 * D) 65536) = rdiv (36195 * D) 65536 := by
  have e : rdiv (36195 * D) 65536 = (2 * (36195 * D) + 65536) / (2 * 65536) := by
    obtain ⟨n, rfl⟩ := Int.eq_ofNat_of_zero_le h
    unfold rdiv
    rw [if_pos (by omega)]
    simp
    omega
  rw [e]
  refine ⟨by omega, by omega, ?_⟩
  unfold fitI
  rw [if_pos (by omega)]

theorem c_rpt (x y : Int) : CallsG Try.prog 63 [i64 x, i64 y] [] (.agg (ptE ⟨x, y⟩)) [] := by
  refine calls_to tok mix Try.func63 rfl rfl rfl ?_
  exact .refl
theorem c_rline (x y : Int) : CallsG Try.prog 64 [i64 x, i64 y, .ptr [.val (.func (.func 63) #[] #[])]] [] (.agg (sgE ⟨2, ⟨x, y⟩, zp, zp⟩)) [] := by
  refine calls_to tok mix Try.func64 rfl rfl rfl ?_
  refine CallV.to _ (c_rpt x y) rfl ?_
  exact .refl
theorem c_rcurve (p q r : Pt) : CallsG Try.prog 65 [.agg (ptE p), .agg (ptE q), .agg (ptE r)] [] (.agg (sgE ⟨4, p, q, r⟩)) [] := by
  refine calls_to tok mix Try.func65 rfl rfl rfl ?_
  exact .refl
theorem c_rpt' (x y : Int) : CallsG Try.prog 67 [i64 x, i64 y] [] (.agg (ptE ⟨x, y⟩)) [] := by
  refine calls_to tok mix Try.func67 rfl rfl rfl ?_
  exact .refl
theorem c_rline' (x y : Int) : CallsG Try.prog 68 [i64 x, i64 y] [] (.agg (sgE ⟨2, ⟨x, y⟩, zp, zp⟩)) [] := by
  refine calls_to tok mix Try.func68 rfl rfl rfl ?_
  exact .refl
theorem c_rcurve' (p q r : Pt) : CallsG Try.prog 69 [.agg (ptE p), .agg (ptE q), .agg (ptE r)] [] (.agg (sgE ⟨4, p, q, r⟩)) [] := by
  refine calls_to tok mix Try.func69 rfl rfl rfl ?_
  exact .refl

set_option maxRecDepth 100000 in
set_option maxHeartbeats 4000000 in
theorem c_roundRect (a b c d rad : Int) : CallsG Try.prog 33 [.agg (reE a b c d), i64 rad] [] (.sl sgE (rr a b c d rad)) [] := by
  refine calls_to tok mix Try.func33 rfl rfl rfl ?_
  have fin : ∀ {L : List Sg} {s : SV}, rr a b c d rad = L → LE s (.sl sgE L) → LE s (.sl sgE (rr a b c d rad)) := fun e h => e ▸ h
  refine CallV.to _ (c_rempty a b c d) rfl ?_
  refine Br.mk (fun h => fin (if_neg h) LE_nil) (fun h => ?_)
  have h := Decidable.not_not.1 h
  have hL := show rr a b c d rad = _ from if_pos h
  obtain ⟨⟨h1, h2⟩, ⟨h3, h4⟩, ⟨h5, h6⟩, ⟨h7, h8⟩, h9, h10⟩ := h
  refine Dr.mk (by decide +kernel) ?_
  refine Ar.fit (by omega) ?_
  refine Ar.fit (by omega) ?_
  refine Ar.fit (by omega) ?_
  refine Ar.fit (by omega) ?_
  have g1 : a * 256 + 256 ≤ c * 256 := by omega
  have g2 : b * 256 + 256 ≤ d * 256 := by omega
  have g3 : -1048576 ≤ a * 256 := by omega
  have g4 : c * 256 ≤ 1048576 := by omega
  have g5 : -1048576 ≤ b * 256 := by omega
  have g6 : d * 256 ≤ 1048576 := by omega
  generalize a * 256 = x0 at *
  generalize b * 256 = y0 at *
  generalize c * 256 = x1 at *
  generalize d * 256 = y1 at *
  refine Ar.fit (by omega) ?_
  refine Ar.fit (by omega) ?_
  refine Dv.pos ⟨by simp only [minL]; omega, by omega, by show _ ≤ (9223372036854775807 : Int); simp only [minL]; omega⟩ ?_
  obtain ⟨f1, f2, f3⟩ := rrd_facts (rad := rad) (show x0 < x1 by omega) (show y0 < y1 by omega)
  refine CallV.to _ (c_clamp rad 0 _) rfl ?_
  rw [show clampI rad 0 (minL (x1 - x0) [y1 - y0] / 2) = rrd x0 y0 x1 y1 rad from rfl]
  generalize rrd x0 y0 x1 y1 rad = D at *
  refine Br.mk (fun k1 => ?_) (fun k1 => ?_)
  · rw [if_pos k1] at hL
    refine CallV.to _ (c_fromRect a b c d) rfl ?_
    exact fin hL .refl
  rw [if_neg k1] at hL
  obtain ⟨r1, r2, r3⟩ := rrk_facts f1 (by omega)
  refine Ar.fit (by omega) ?_
  refine CallV.to _ (c_divround (36195 * D) 65536 (by omega) (by decide)) rfl ?_
  rw [r3]
  generalize rdiv (36195 * D) 65536 = k at *
  refine Dr.mk (by decide +kernel) ?_
  refine Ar.fit (by omega) ?_
  refine CallV.to _ (c_rpt _ _) rfl ?_
  refine Ar.fit (by omega) ?_
  refine CallV.to _ (c_rline _ _) rfl ?_
  refine Ar.fit (by omega) ?_
  refine Ar.fit (by omega) ?_
  refine CallV.to _ (c_rpt _ _) rfl ?_
  refine Ar.fit (by omega) ?_
  refine Ar.fit (by omega) ?_
  refine CallV.to _ (c_rpt _ _) rfl ?_
  refine Ar.fit (by omega) ?_
  refine CallV.to _ (c_rpt _ _) rfl ?_
  refine CallV.to _ (c_rcurve ⟨_, _⟩ ⟨_, _⟩ ⟨_, _⟩) rfl ?_
  refine Ar.fit (by omega) ?_
  refine CallV.to _ (c_rline _ _) rfl ?_
  refine Ar.fit (by omega) ?_
  refine Ar.fit (by omega) ?_
  refine CallV.to _ (c_rpt _ _) rfl ?_
  refine Ar.fit (by omega) ?_
  refine Ar.fit (by omega) ?_
  refine CallV.to _ (c_rpt _ _) rfl ?_
  refine Ar.fit (by omega) ?_
  refine CallV.to _ (c_rpt _ _) rfl ?_
  refine CallV.to _ (c_rcurve ⟨_, _⟩ ⟨_, _⟩ ⟨_, _⟩) rfl ?_
  refine Ar.fit (by omega) ?_
  refine CallV.to _ (c_rline _ _) rfl ?_
  refine Ar.fit (by omega) ?_
  refine Ar.fit (by omega) ?_
  refine CallV.to _ (c_rpt _ _) rfl ?_
  refine Ar.fit (by omega) ?_
  refine Ar.fit (by omega) ?_
  refine CallV.to _ (c_rpt _ _) rfl ?_
  refine Ar.fit (by omega) ?_
  refine CallV.to _ (c_rpt _ _) rfl ?_
  refine CallV.to _ (c_rcurve ⟨_, _⟩ ⟨_, _⟩ ⟨_, _⟩) rfl ?_
  refine Ar.fit (by omega) ?_
  refine CallV.to _ (c_rline _ _) rfl ?_
  refine Ar.fit (by omega) ?_
  refine Ar.fit (by omega) ?_
  refine CallV.to _ (c_rpt _ _) rfl ?_
  refine Ar.fit (by omega) ?_
  refine Ar.fit (by omega) ?_
  refine CallV.to _ (c_rpt _ _) rfl ?_
  refine Ar.fit (by omega) ?_
  refine CallV.to _ (c_rpt _ _) rfl ?_
  refine CallV.to _ (c_rcurve ⟨_, _⟩ ⟨_, _⟩ ⟨_, _⟩) rfl ?_
  refine ⟨Sg, sgE, rrL x0 y0 x1 y1 D k, (by kernel_rfl), Ob.mk ⟨rfl, by decide, by decide, by decide, fun x _ => ⟨rfl, rfl, rfl⟩⟩ ?_⟩
  exact fin hL (LE_sl rfl)

set_option maxRecDepth 100000 in
set_option maxHeartbeats 4000000 in
theorem c_roundRect' (a b c d rad : Int) : CallsG Try.prog 34 [.agg (reE a b c d), i64 rad] [] (.sl sgE (rr a b c d rad)) [] := by
  refine calls_to tok mix Try.func34 rfl rfl rfl ?_
  have fin : ∀ {L : List Sg} {s : SV}, rr a b c d rad = L → LE s (.sl sgE L) → LE s (.sl sgE (rr a b c d rad)) := fun e h => e ▸ h
  refine CallV.to _ (c_empty' a b c d) rfl ?_
  refine Br.mk (fun h => ⟨Sg, sgE, [], rfl, Ob.mk ⟨rfl, by decide, by decide, by decide, fun x hx => by cases hx⟩ (fin (if_neg h) (LE_sl rfl))⟩) (fun h => ?_)
  have h := Decidable.not_not.1 h
  have hL := show rr a b c d rad = _ from if_pos h
  obtain ⟨⟨h1, h2⟩, ⟨h3, h4⟩, ⟨h5, h6⟩, ⟨h7, h8⟩, h9, h10⟩ := h
  refine Dr.mk (by decide +kernel) ?_
  refine Ar.fit (by omega) ?_
  refine Ar.fit (by omega) ?_
  refine Ar.fit (by omega) ?_
  refine Ar.fit (by omega) ?_
  have g1 : a * 256 + 256 ≤ c * 256 := by omega
  have g2 : b * 256 + 256 ≤ d * 256 := by omega
  have g3 : -1048576 ≤ a * 256 := by omega
  have g4 : c * 256 ≤ 1048576 := by omega
  have g5 : -1048576 ≤ b * 256 := by omega
  have g6 : d * 256 ≤ 1048576 := by omega
  generalize a * 256 = x0 at *
  generalize b * 256 = y0 at *
  generalize c * 256 = x1 at *
  generalize d * 256 = y1 at *
  refine Ar.fit (by omega) ?_
  refine Ar.fit (by omega) ?_
  refine Dv.pos ⟨by simp only [minL]; omega, by omega, by show _ ≤ (9223372036854775807 : Int); simp only [minL]; omega⟩ ?_
  obtain ⟨f1, f2, f3⟩ := rrd_facts (rad := rad) (show x0 < x1 by omega) (show y0 < y1 by omega)
  have ee : maxL 0 [minL rad [minL (x1 - x0) [y1 - y0] / 2]] = rrd x0 y0 x1 y1 rad := by
    simp only [minL, maxL]
    unfold rrd clampI
    split
    · omega
    · split <;> omega
  change Br _ _
  rw [ee]
  generalize rrd x0 y0 x1 y1 rad = D at *
  refine Br.mk (fun k1 => ?_) (fun k1 => ?_)
  · rw [if_pos k1] at hL
    refine CallV.to _ (c_fromRect' a b c d) rfl ?_
    exact fin hL .refl
  rw [if_neg k1] at hL
  obtain ⟨r1, r2, r3⟩ := rrk_facts f1 (by omega)
  refine Ar.fit (by omega) ?_
  refine CallV.to _ (r8_divround (36195 * D) 65536 (by omega) (by decide)) rfl ?_
  rw [r3]
  generalize rdiv (36195 * D) 65536 = k at *
  refine Ar.fit (by omega) ?_
  refine CallV.to _ (c_rpt' _ _) rfl ?_
  refine Ar.fit (by omega) ?_
  refine CallV.to _ (c_rline' _ _) rfl ?_
  refine Ar.fit (by omega) ?_
  refine Ar.fit (by omega) ?_
  refine CallV.to _ (c_rpt' _ _) rfl ?_
  refine Ar.fit (by omega) ?_
  refine Ar.fit (by omega) ?_
  refine CallV.to _ (c_rpt' _ _) rfl ?_
  refine Ar.fit (by omega) ?_
  refine CallV.to _ (c_rpt' _ _) rfl ?_
  refine CallV.to _ (c_rcurve' ⟨_, _⟩ ⟨_, _⟩ ⟨_, _⟩) rfl ?_
  refine Ar.fit (by omega) ?_
  refine CallV.to _ (c_rline' _ _) rfl ?_
  refine Ar.fit (by omega) ?_
  refine Ar.fit (by omega) ?_
  refine CallV.to _ (c_rpt' _ _) rfl ?_
  refine Ar.fit (by omega) ?_
  refine Ar.fit (by omega) ?_
  refine CallV.to _ (c_rpt' _ _) rfl ?_
  refine Ar.fit (by omega) ?_
  refine CallV.to _ (c_rpt' _ _) rfl ?_
  refine CallV.to _ (c_rcurve' ⟨_, _⟩ ⟨_, _⟩ ⟨_, _⟩) rfl ?_
  refine Ar.fit (by omega) ?_
  refine CallV.to _ (c_rline' _ _) rfl ?_
  refine Ar.fit (by omega) ?_
  refine Ar.fit (by omega) ?_
  refine CallV.to _ (c_rpt' _ _) rfl ?_
  refine Ar.fit (by omega) ?_
  refine Ar.fit (by omega) ?_
  refine CallV.to _ (c_rpt' _ _) rfl ?_
  refine Ar.fit (by omega) ?_
  refine CallV.to _ (c_rpt' _ _) rfl ?_
  refine CallV.to _ (c_rcurve' ⟨_, _⟩ ⟨_, _⟩ ⟨_, _⟩) rfl ?_
  refine Ar.fit (by omega) ?_
  refine CallV.to _ (c_rline' _ _) rfl ?_
  refine Ar.fit (by omega) ?_
  refine Ar.fit (by omega) ?_
  refine CallV.to _ (c_rpt' _ _) rfl ?_
  refine Ar.fit (by omega) ?_
  refine Ar.fit (by omega) ?_
  refine CallV.to _ (c_rpt' _ _) rfl ?_
  refine Ar.fit (by omega) ?_
  refine CallV.to _ (c_rpt' _ _) rfl ?_
  refine CallV.to _ (c_rcurve' ⟨_, _⟩ ⟨_, _⟩ ⟨_, _⟩) rfl ?_
  refine ⟨Sg, sgE, rrL x0 y0 x1 y1 D k, (by kernel_rfl), Ob.mk ⟨rfl, by decide, by decide, by decide, fun x _ => ⟨rfl, rfl, rfl⟩⟩ ?_⟩
  exact fin hL (LE_sl rfl)

end Go.Gs
