/- Integers as a sign and a row of digits. -/
import Derived.Test.YtlhelkkfjniioaaV
namespace Go.Gs

structure BI where
  neg : Bool
  mag : List Dig
  deriving DecidableEq
/-- What it stands for. -/
def BI.v (a : BI) : Int := if a.neg then -(val a.mag : Int) else val a.mag
/-- The integer, normalized. -/
def ofZ (z : Int) : BI := ⟨decide (z < 0), digs z.natAbs⟩
theorem ofZ_v (z : Int) : (ofZ z).v = z := by
  unfold BI.v ofZ
  simp only [val_digs, decide_eq_true_eq]
  split <;> omega
theorem BI.v_abs (a : BI) : a.v.natAbs = val a.mag := by unfold BI.v; split <;> omega
theorem BI.v_eq (a : BI) : (a.neg = true ∧ a.v = -(val a.mag : Int)) ∨ (a.neg = false ∧ a.v = (val a.mag : Int)) := by
  unfold BI.v; cases a.neg <;> simp
theorem ofZ_neg (z : Int) : (ofZ z).neg = true ↔ z < 0 := by simp [ofZ]
theorem ofZ_mag (z : Int) : (ofZ z).mag = digs z.natAbs := rfl
/-- How many digits. -/
def zlen (z : Int) : Nat := (digs z.natAbs).length
theorem zlen_le {z : Int} {k : Nat} (h : z.natAbs < 4294967296 ^ k) : zlen z ≤ k := digs_len h
theorem zlen_lt {z : Int} {k : Nat} (h : zlen z ≤ k) : z.natAbs < 4294967296 ^ k := digs_lt h
theorem zlen_neg (z : Int) : zlen (-z) = zlen z := by simp [zlen]
theorem zlen_mul (x y : Int) : zlen (x * y) ≤ zlen x + zlen y := by
  refine zlen_le ?_
  rw [Int.natAbs_mul, Nat.pow_add]
  exact Nat.mul_lt_mul_of_lt_of_lt (zlen_lt (Nat.le_refl _)) (zlen_lt (Nat.le_refl _))
theorem zlen_add (x y : Int) : zlen (x + y) ≤ max (zlen x) (zlen y) + 1 := by
  refine zlen_le ?_
  have h1 := zlen_lt (Nat.le_max_left (zlen x) (zlen y))
  have h2 := zlen_lt (Nat.le_max_right (zlen x) (zlen y))
  rw [Nat.pow_succ]
  have := Int.natAbs_add_le x y
  omega
theorem zlen_sub (x y : Int) : zlen (x - y) ≤ max (zlen x) (zlen y) + 1 := by
  have := zlen_add x (-y)
  rwa [zlen_neg, ← Int.sub_eq_add_neg] at this
theorem zlen_v (a : BI) : zlen a.v ≤ a.mag.length := by
  unfold zlen; rw [BI.v_abs]; exact digs_val_len _
theorem zlen_mono {x y : Int} (h : x.natAbs ≤ y.natAbs) : zlen x ≤ zlen y := digs_mono h
theorem zlen_i64 {n : Int} (h : -9223372036854775808 ≤ n ∧ n ≤ 9223372036854775807) : zlen n ≤ 2 := zlen_le (by
  rw [show 4294967296 ^ 2 = 18446744073709551616 by decide]; omega)

/-- The quotient, rounded to the nearest, halves away from zero. -/
def rdiv (a b : Int) : Int :=
  if a < 0 ↔ b < 0 then ((2 * a.natAbs + b.natAbs) / (2 * b.natAbs) : Nat) else -((2 * a.natAbs + b.natAbs) / (2 * b.natAbs) : Nat)
theorem rdiv_abs (a b : Int) : (rdiv a b).natAbs = (2 * a.natAbs + b.natAbs) / (2 * b.natAbs) := by
  unfold rdiv
  generalize (2 * a.natAbs + b.natAbs) / (2 * b.natAbs) = q
  split <;> omega

end Go.Gs
