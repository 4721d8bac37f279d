/- Transforms, the program's. -/
import Derived.Test.YtlhelkkfjniioaaGreatNumC
namespace Go.Gs
open Go.Proofs

structure AF where
  a : BR
  b : BR
  c : BR
  d : BR
  e : BR
  f : BR
def afE (t : AF) : List SV := brE t.a ++ (brE t.b ++ (brE t.c ++ (brE t.d ++ (brE t.e ++ brE t.f))))
/-- No number is longer. -/
def AF.le (t : AF) (n : Nat) : Prop := t.a.len ≤ n ∧ t.b.len ≤ n ∧ t.c.len ≤ n ∧ t.d.len ≤ n ∧ t.e.len ≤ n ∧ t.f.len ≤ n
def AF.nth (t : AF) : Nat → BR
  | 0 => t.a
  | 1 => t.b
  | 2 => t.c
  | 3 => t.d
  | 4 => t.e
  | _ => t.f
/-- The first numbers are in lowest terms. -/
def stage (t : AF) : Nat → AF
  | 0 => t
  | 1 => { t with a := ofQ t.a.v }
  | 2 => { t with a := ofQ t.a.v, b := ofQ t.b.v }
  | 3 => { t with a := ofQ t.a.v, b := ofQ t.b.v, c := ofQ t.c.v }
  | 4 => { t with a := ofQ t.a.v, b := ofQ t.b.v, c := ofQ t.c.v, d := ofQ t.d.v }
  | 5 => { t with a := ofQ t.a.v, b := ofQ t.b.v, c := ofQ t.c.v, d := ofQ t.d.v, e := ofQ t.e.v }
  | _ => ⟨ofQ t.a.v, ofQ t.b.v, ofQ t.c.v, ofQ t.d.v, ofQ t.e.v, ofQ t.f.v⟩
def AF.nrm (t : AF) : AF := ⟨ofQ t.a.v, ofQ t.b.v, ofQ t.c.v, ofQ t.d.v, ofQ t.e.v, ofQ t.f.v⟩
def zero24 : List SV := (List.replicate 12 [bl false, SV.val (.slice none 0 0)]).flatten

set_option maxRecDepth 100000 in
set_option maxHeartbeats 4000000 in
theorem a_numbers (t : AF) (ht : t.le 400000000) : CallsG Tryz.prog 47 [.agg (afE t)] [] (.agg (afE t.nrm)) [] := by
  obtain ⟨ha, hb, hc, hd, he, hf⟩ := ht
  refine calls_to tok mix Tryz.func47 rfl rfl rfl ?_
  refine ⟨Nat, fun i => ⟨[(20, i64 i), (19, .agg (afE t)), (3, .loc 2 0), (2, .loc 1 0)], [(2, .box 78 (afE (stage t i))), (1, .box 78 zero24), (0, .box 29 (afE t))], 3, 30, 0⟩,
    fun i => i ≤ 6, fun i => 6 - i, 0, Nat.zero_le _, ?_, ?_⟩
  · exact sub_of [(0, some 0), (1, some 1), (2, some 2)] rfl rfl rfl ⟨rfl, rfl, rfl, rfl, trivial⟩ ⟨rfl, rfl, rfl, trivial⟩
  intro i hi
  have hi : i = 0 ∨ i = 1 ∨ i = 2 ∨ i = 3 ∨ i = 4 ∨ i = 5 ∨ i = 6 := by have hi : i ≤ 6 := hi; omega
  rcases hi with rfl | rfl | rfl | rfl | rfl | rfl | rfl
  · refine Br.mk (fun _ => ?_) (fun h => absurd (by decide) h)
    refine CallV.to _ (q_normalize t.a ha) rfl ?_
    refine Ar.fit (by decide) ?_
    exact ⟨1, (by show 1 ≤ 6; decide), sub_of [(0, some 0), (1, some 1), (2, some 2)] rfl rfl rfl ⟨rfl, rfl, rfl, rfl, trivial⟩ ⟨rfl, rfl, rfl, trivial⟩, by decide⟩
  · refine Br.mk (fun _ => ?_) (fun h => absurd (by decide) h)
    refine CallV.to _ (q_normalize t.b hb) rfl ?_
    refine Ar.fit (by decide) ?_
    exact ⟨2, (by show 2 ≤ 6; decide), sub_of [(0, some 0), (1, some 1), (2, some 2)] rfl rfl rfl ⟨rfl, rfl, rfl, rfl, trivial⟩ ⟨rfl, rfl, rfl, trivial⟩, by decide⟩
  · refine Br.mk (fun _ => ?_) (fun h => absurd (by decide) h)
    refine CallV.to _ (q_normalize t.c hc) rfl ?_
    refine Ar.fit (by decide) ?_
    exact ⟨3, (by show 3 ≤ 6; decide), sub_of [(0, some 0), (1, some 1), (2, some 2)] rfl rfl rfl ⟨rfl, rfl, rfl, rfl, trivial⟩ ⟨rfl, rfl, rfl, trivial⟩, by decide⟩
  · refine Br.mk (fun _ => ?_) (fun h => absurd (by decide) h)
    refine CallV.to _ (q_normalize t.d hd) rfl ?_
    refine Ar.fit (by decide) ?_
    exact ⟨4, (by show 4 ≤ 6; decide), sub_of [(0, some 0), (1, some 1), (2, some 2)] rfl rfl rfl ⟨rfl, rfl, rfl, rfl, trivial⟩ ⟨rfl, rfl, rfl, trivial⟩, by decide⟩
  · refine Br.mk (fun _ => ?_) (fun h => absurd (by decide) h)
    refine CallV.to _ (q_normalize t.e he) rfl ?_
    refine Ar.fit (by decide) ?_
    exact ⟨5, (by show 5 ≤ 6; decide), sub_of [(0, some 0), (1, some 1), (2, some 2)] rfl rfl rfl ⟨rfl, rfl, rfl, rfl, trivial⟩ ⟨rfl, rfl, rfl, trivial⟩, by decide⟩
  · refine Br.mk (fun _ => ?_) (fun h => absurd (by decide) h)
    refine CallV.to _ (q_normalize t.f hf) rfl ?_
    refine Ar.fit (by decide) ?_
    exact ⟨6, (by show 6 ≤ 6; decide), sub_of [(0, some 0), (1, some 1), (2, some 2)] rfl rfl rfl ⟨rfl, rfl, rfl, rfl, trivial⟩ ⟨rfl, rfl, rfl, trivial⟩, by decide⟩
  · refine Br.mk (fun h => absurd h (by decide)) (fun _ => ?_)
    exact .refl

def okI (t : AF) : Nat → Prop
  | 0 => True
  | k + 1 => okI t k ∧ qbits (t.nth k).v ≤ 256
/-- The numbers are short enough. -/
def AF.ok (t : AF) : Prop := okI t 6
instance (t : AF) : ∀ n, Decidable (okI t n) := fun n => by
  induction n with
  | zero => exact isTrue trivial
  | succ k ih => unfold okI; exact instDecidableAnd
instance (t : AF) : Decidable t.ok := inferInstanceAs (Decidable (okI t 6))

set_option maxRecDepth 100000 in
set_option maxHeartbeats 4000000 in
theorem a_valid (t : AF) (ht : t.le 100000000) : CallsG Tryz.prog 27 [.agg (afE t)] [] (pr t.ok) [] := by
  have ht' := ht
  obtain ⟨ha, hb, hc, hd, he, hf⟩ := ht
  refine calls_to tok mix Tryz.func27 rfl rfl rfl ?_
  refine CallV.to _ (a_numbers t ⟨by omega, by omega, by omega, by omega, by omega, by omega⟩) rfl ?_
  refine ⟨Nat, fun i => ⟨[(6, .agg (afE t.nrm)), (7, i64 i)], [], 1, 14, 0⟩, fun i => i ≤ 6 ∧ okI t i, fun i => 6 - i, 0, ⟨Nat.zero_le _, trivial⟩, ?_, ?_⟩
  · exact sub_of [] rfl rfl rfl ⟨rfl, rfl, trivial⟩ trivial
  rintro i ⟨hi, ok⟩
  have hi : i = 0 ∨ i = 1 ∨ i = 2 ∨ i = 3 ∨ i = 4 ∨ i = 5 ∨ i = 6 := by omega
  rcases hi with rfl | rfl | rfl | rfl | rfl | rfl | rfl
  · refine Br.mk (fun _ => ?_) (fun h => absurd (by decide) h)
    have l1 := qlen_v t.a
    refine CallV.to _ (q_bitlen (ofQ t.a.v) (by rw [ofQ_len]; omega)) rfl ?_
    rw [ofQ_v]
    refine Br.mk (fun h => LE_false (fun h' => ?_)) (fun h => ?_)
    · simp only [AF.ok, okI, AF.nth] at h'; omega
    refine Ar.fit (by decide) ?_
    exact ⟨1, ⟨(by show 1 ≤ 6; decide), ok, (by show qbits t.a.v ≤ 256; omega)⟩, sub_of [] rfl rfl rfl ⟨rfl, rfl, trivial⟩ trivial, by decide⟩
  · refine Br.mk (fun _ => ?_) (fun h => absurd (by decide) h)
    have l1 := qlen_v t.b
    refine CallV.to _ (q_bitlen (ofQ t.b.v) (by rw [ofQ_len]; omega)) rfl ?_
    rw [ofQ_v]
    refine Br.mk (fun h => LE_false (fun h' => ?_)) (fun h => ?_)
    · simp only [AF.ok, okI, AF.nth] at h'; omega
    refine Ar.fit (by decide) ?_
    exact ⟨2, ⟨(by show 2 ≤ 6; decide), ok, (by show qbits t.b.v ≤ 256; omega)⟩, sub_of [] rfl rfl rfl ⟨rfl, rfl, trivial⟩ trivial, by decide⟩
  · refine Br.mk (fun _ => ?_) (fun h => absurd (by decide) h)
    have l1 := qlen_v t.c
    refine CallV.to _ (q_bitlen (ofQ t.c.v) (by rw [ofQ_len]; omega)) rfl ?_
    rw [ofQ_v]
    refine Br.mk (fun h => LE_false (fun h' => ?_)) (fun h => ?_)
    · simp only [AF.ok, okI, AF.nth] at h'; omega
    refine Ar.fit (by decide) ?_
    exact ⟨3, ⟨(by show 3 ≤ 6; decide), ok, (by show qbits t.c.v ≤ 256; omega)⟩, sub_of [] rfl rfl rfl ⟨rfl, rfl, trivial⟩ trivial, by decide⟩
  · refine Br.mk (fun _ => ?_) (fun h => absurd (by decide) h)
    have l1 := qlen_v t.d
    refine CallV.to _ (q_bitlen (ofQ t.d.v) (by rw [ofQ_len]; omega)) rfl ?_
    rw [ofQ_v]
    refine Br.mk (fun h => LE_false (fun h' => ?_)) (fun h => ?_)
    · simp only [AF.ok, okI, AF.nth] at h'; omega
    refine Ar.fit (by decide) ?_
    exact ⟨4, ⟨(by show 4 ≤ 6; decide), ok, (by show qbits t.d.v ≤ 256; omega)⟩, sub_of [] rfl rfl rfl ⟨rfl, rfl, trivial⟩ trivial, by decide⟩
  · refine Br.mk (fun _ => ?_) (fun h => absurd (by decide) h)
    have l1 := qlen_v t.e
    refine CallV.to _ (q_bitlen (ofQ t.e.v) (by rw [ofQ_len]; omega)) rfl ?_
    rw [ofQ_v]
    refine Br.mk (fun h => LE_false (fun h' => ?_)) (fun h => ?_)
    · simp only [AF.ok, okI, AF.nth] at h'; omega
    refine Ar.fit (by decide) ?_
    exact ⟨5, ⟨(by show 5 ≤ 6; decide), ok, (by show qbits t.e.v ≤ 256; omega)⟩, sub_of [] rfl rfl rfl ⟨rfl, rfl, trivial⟩ trivial, by decide⟩
  · refine Br.mk (fun _ => ?_) (fun h => absurd (by decide) h)
    have l1 := qlen_v t.f
    refine CallV.to _ (q_bitlen (ofQ t.f.v) (by rw [ofQ_len]; omega)) rfl ?_
    rw [ofQ_v]
    refine Br.mk (fun h => LE_false (fun h' => ?_)) (fun h => ?_)
    · simp only [AF.ok, okI, AF.nth] at h'; omega
    refine Ar.fit (by decide) ?_
    exact ⟨6, ⟨(by show 6 ≤ 6; decide), ok, (by show qbits t.f.v ≤ 256; omega)⟩, sub_of [] rfl rfl rfl ⟨rfl, rfl, trivial⟩ trivial, by decide⟩
  · refine Br.mk (fun h => absurd h (by decide)) (fun _ => ?_)
    exact LE_true ok

theorem a_twos (a b c d : BR) (ha : a.len ≤ 10000000) (hb : b.len ≤ 10000000) (hc : c.len ≤ 10000000) (hd : d.len ≤ 10000000) :
    CallsG Tryz.prog 50 [.agg (brE a), .agg (brE b), .agg (brE c), .agg (brE d)] [] (.agg (brE (ofQ (a.v * b.v + c.v * d.v)))) [] := by
  have l1 := qlen_v a
  have l2 := qlen_v b
  have l3 := qlen_v c
  have l4 := qlen_v d
  have m1 := qlen_mul a.v b.v
  have m2 := qlen_mul c.v d.v
  refine calls_to tok mix Tryz.func50 rfl rfl rfl ?_
  refine Dr.mk (by decide +kernel) ?_
  refine CallV.to _ (q_mul a b (by omega) (by omega)) rfl ?_
  refine CallV.to _ (q_mul c d (by omega) (by omega)) rfl ?_
  refine CallV.to _ (q_add (ofQ (a.v * b.v)) (ofQ (c.v * d.v)) (by rw [ofQ_len]; omega) (by rw [ofQ_len]; omega)) rfl ?_
  rw [ofQ_v, ofQ_v]
  exact .refl

def applX (t : AF) (x y : Rat) : Rat := t.a.v * x + t.c.v * y + t.e.v
def applY (t : AF) (x y : Rat) : Rat := t.b.v * x + t.d.v * y + t.f.v
theorem qlen_twos (a b c d e : BR) {n : Nat} (h1 : a.len ≤ n) (h2 : b.len ≤ n) (h3 : c.len ≤ n) (h4 : d.len ≤ n) (h5 : e.len ≤ n) : qlen (a.v * b.v + c.v * d.v) ≤ 4 * n + 5 ∧ qlen (a.v * b.v + c.v * d.v + e.v) ≤ 5 * n + 7 := by
  have l1 := qlen_v a
  have l2 := qlen_v b
  have l3 := qlen_v c
  have l4 := qlen_v d
  have l5 := qlen_v e
  have m1 := qlen_mul a.v b.v
  have m2 := qlen_mul c.v d.v
  have m3 := qlen_add (a.v * b.v) (c.v * d.v)
  have m4 := qlen_add (a.v * b.v + c.v * d.v) e.v
  omega
theorem a_exact (t : AF) (x y : BR) (ht : t.le 5000000) (hx : x.len ≤ 5000000) (hy : y.len ≤ 5000000) :
    CallsG Tryz.prog 29 [.agg (afE t), .agg (brE x), .agg (brE y)] [] (.tup [.agg (brE (ofQ (applX t x.v y.v))), .agg (brE (ofQ (applY t x.v y.v)))]) [] := by
  obtain ⟨ha, hb, hc, hd, he, hf⟩ := ht
  have m1 := qlen_twos t.a x t.c y t.e ha hx hc hy he
  have m2 := qlen_twos t.b x t.d y t.f hb hx hd hy hf
  refine calls_to tok mix Tryz.func29 rfl rfl rfl ?_
  refine Dr.mk (by decide +kernel) ?_
  refine CallV.to _ (a_twos t.a x t.c y (by omega) (by omega) (by omega) (by omega)) rfl ?_
  refine CallV.to _ (q_add (ofQ (t.a.v * x.v + t.c.v * y.v)) t.e (by rw [ofQ_len]; omega) (by omega)) rfl ?_
  refine CallV.to _ (a_twos t.b x t.d y (by omega) (by omega) (by omega) (by omega)) rfl ?_
  refine CallV.to _ (q_add (ofQ (t.b.v * x.v + t.d.v * y.v)) t.f (by rw [ofQ_len]; omega) (by omega)) rfl ?_
  rw [ofQ_v, ofQ_v]
  exact .refl

end Go.Gs
/- Transforms, the program's: the identity and translations. -/
namespace Go.Gs
open Go.Proofs

/-- The transform with these numbers. -/
def afQ (a b c d e f : Rat) : AF := ⟨ofQ a, ofQ b, ofQ c, ofQ d, ofQ e, ofQ f⟩

end Go.Gs
