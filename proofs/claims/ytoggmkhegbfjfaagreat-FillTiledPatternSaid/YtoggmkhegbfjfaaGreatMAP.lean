/- Positions by the distance from a point. -/
import Derived.Test.YtoggmkhegbfjfaaGreatMAO
namespace Go.Gs
open Go.Proofs

def radF (c : Pt) (r : Int) (x y : Rat) : Rat :=
  ((4294967296 : Int) : Rat) * ((x - (c.x : Rat)) * (x - (c.x : Rat)) + (y - (c.y : Rat)) * (y - (c.y : Rat))) / ((r * r : Int) : Rat)
def radP (c : Pt) (r : Int) (x y : Rat) : Int := if (1 ≤ r ∧ r ≤ 1048576) ∧ ptOK c then cpI ((isq (radF c r x y).floor.natAbs : Nat) : Int) else 65536

theorem rad_len {c : Pt} {r : Int} {x y : Rat} (hc : ptOK c) (hr : 1 ≤ r ∧ r ≤ 1048576) (hx : qlen x ≤ 40) (hy : qlen y ≤ 40) :
    (R64 c.x ∧ R64 c.y) ∧ (1 ≤ r * r ∧ r * r ≤ 4398046511104) ∧ qlen (x - (c.x : Rat)) ≤ 43 ∧ qlen (y - (c.y : Rat)) ≤ 43 ∧
    qlen ((x - (c.x : Rat)) * (x - (c.x : Rat))) ≤ 86 ∧ qlen ((y - (c.y : Rat)) * (y - (c.y : Rat))) ≤ 86 ∧
    qlen ((x - (c.x : Rat)) * (x - (c.x : Rat)) + (y - (c.y : Rat)) * (y - (c.y : Rat))) ≤ 173 ∧
    qlen (((4294967296 : Int) : Rat) * ((x - (c.x : Rat)) * (x - (c.x : Rat)) + (y - (c.y : Rat)) * (y - (c.y : Rat)))) ≤ 175 ∧
    qlen ((r * r : Int) : Rat) ≤ 2 ∧ qlen (radF c r x y) ≤ 180 ∧ (digs (radF c r x y).floor.natAbs).length ≤ 180 ∧ (digs (isq (radF c r x y).floor.natAbs)).length ≤ 180 := by
  have hcx := hc.1
  have hcy := hc.2
  have rx : R64 c.x := by unfold R64; omega
  have ry : R64 c.y := by unfold R64; omega
  have h1 : 1 ≤ r * r := by have := sq_pos (u := r) (v := 0) (by omega); omega
  have h2 : r * r ≤ 4398046511104 := (sq_le (by omega)).2
  have rr : R64 (r * r) := by unfold R64; omega
  have l1 := qlen_sub x (c.x : Rat)
  have l2 := qlen_sub y (c.y : Rat)
  have l3 := qlen_i64 rx
  have l4 := qlen_i64 ry
  have l5 := qlen_i64 rr
  have l6 := qlen_mul (x - (c.x : Rat)) (x - (c.x : Rat))
  have l7 := qlen_mul (y - (c.y : Rat)) (y - (c.y : Rat))
  have l8 := qlen_add ((x - (c.x : Rat)) * (x - (c.x : Rat))) ((y - (c.y : Rat)) * (y - (c.y : Rat)))
  have l9 := qlen_mul ((4294967296 : Int) : Rat) ((x - (c.x : Rat)) * (x - (c.x : Rat)) + (y - (c.y : Rat)) * (y - (c.y : Rat)))
  have l10 := qlen_i64 (n := 4294967296) (by decide)
  have l11 := qlen_div (((4294967296 : Int) : Rat) * ((x - (c.x : Rat)) * (x - (c.x : Rat)) + (y - (c.y : Rat)) * (y - (c.y : Rat)))) _ (int_ne h1)
  have l12 : qlen (radF c r x y) ≤ 180 := by unfold radF; omega
  have l13 : (digs (radF c r x y).floor.natAbs).length ≤ 180 := Nat.le_trans (floor_len _) l12
  refine ⟨⟨rx, ry⟩, ⟨h1, h2⟩, by omega, by omega, by omega, by omega, by omega, by omega, l5, l12, l13, Nat.le_trans (digs_mono ?_) l13⟩
  have hs := (isq_spec (radF c r x y).floor.natAbs).1
  rcases Nat.eq_zero_or_pos (isq (radF c r x y).floor.natAbs) with h0 | h0
  · omega
  · exact Nat.le_trans (Nat.le_mul_of_pos_left _ h0) hs

theorem c_radpos (c : Pt) (r : Int) (x y : Rat) (hx : qlen x ≤ 40) (hy : qlen y ≤ 40) :
    CallsG Tryz.prog 130 [.agg (ptE c), i64 r, .agg (brE (ofQ x)), .agg (brE (ofQ y))] [] (i64 (radP c r x y)) [] := by
  refine calls_to tok mix Tryz.func130 rfl rfl rfl ?_
  refine Br.mk (fun h1 => LE_int (by rw [radP, if_neg (fun k => by have := k.1.1; omega)])) (fun h1 => ?_)
  refine Br.mk (fun h2 => LE_int (by rw [radP, if_neg (fun k => by have := k.1.2; omega)])) (fun h2 => ?_)
  refine CallV.to _ (c_vvalid c) rfl ?_
  refine Br.mk (fun h3 => LE_int (by rw [radP, if_neg (fun k => h3 k.2)])) (fun h3 => ?_)
  have hc := Decidable.not_not.1 h3
  obtain ⟨⟨l1, l2⟩, l3, l4, l5, l6, l7, l8, l9, l10, l11, l12, l13⟩ := rad_len (r := r) hc (by omega) hx hy
  refine CallV.to _ (c_offset c x y hc (by omega) (by omega)) rfl ?_
  refine Dr.mk (by decide +kernel) ?_
  refine CallV.to _ (q_mulQ (x - (c.x : Rat)) (x - (c.x : Rat)) (by omega) (by omega)) rfl ?_
  refine CallV.to _ (q_mulQ (y - (c.y : Rat)) (y - (c.y : Rat)) (by omega) (by omega)) rfl ?_
  refine CallV.to _ (q_addQ _ _ (by omega) (by omega)) rfl ?_
  refine Dr.mk (by decide +kernel) ?_
  have l65 := qlen_i64 (n := 4294967296) (by decide)
  refine CallV.to _ (q_fromint 4294967296 (by decide)) rfl ?_
  refine CallV.to _ (q_mulQ ((4294967296 : Int) : Rat) _ (by omega) (by omega)) rfl ?_
  refine Ar.fit (by omega) ?_
  refine CallV.to _ (q_fromint (r * r) (by unfold R64; omega)) rfl ?_
  refine CallV.to _ (q_quoQ (((4294967296 : Int) : Rat) * ((x - (c.x : Rat)) * (x - (c.x : Rat)) + (y - (c.y : Rat)) * (y - (c.y : Rat)))) ((r * r : Int) : Rat) (by omega) (by omega) (int_ne l3.1)) rfl ?_
  refine CallV.to _ (q_floorQ (radF c r x y) (by omega)) rfl ?_
  have hs := n_sqrt (digs (radF c r x y).floor.natAbs) (by omega)
  rw [val_digs] at hs
  refine CallV.to _ hs rfl ?_
  have hn := z_newF (digs (isq (radF c r x y).floor.natAbs)) (by omega)
  rw [val_digs] at hn
  refine CallV.to _ hn rfl ?_
  refine CallV.to _ (c_cpos (ofZ ((isq (radF c r x y).floor.natAbs : Nat) : Int)) (by show (digs _).length ≤ _; rw [Int.natAbs_natCast]; omega)) rfl ?_
  exact LE_int (by rw [radP, if_pos ⟨by omega, hc⟩, ofZ_v])

theorem c_radpos' (c : Pt) (r : Int) (x y : Rat) (hx : qlen x ≤ 40) (hy : qlen y ≤ 40) :
    CallsG Tryz.prog 152 [.agg (ptE c), i64 r, .agg (brE (ofQ x)), .agg (brE (ofQ y))] [] (i64 (radP c r x y)) [] := by
  refine calls_to tok mix Tryz.func152 rfl rfl rfl ?_
  refine CallV.to _ (c_ptvalid' c) rfl ?_
  refine Br.mk (fun h3 => LE_int (by rw [radP, if_neg (fun k => h3 k.2)])) (fun h3 => ?_)
  refine Br.mk (fun h1 => LE_int (by rw [radP, if_neg (fun k => by have := k.1.1; omega)])) (fun h1 => ?_)
  refine Br.mk (fun h2 => LE_int (by rw [radP, if_neg (fun k => by have := k.1.2; omega)])) (fun h2 => ?_)
  have hc := Decidable.not_not.1 h3
  obtain ⟨⟨l1, l2⟩, l3, l4, l5, l6, l7, l8, l9, l10, l11, l12, l13⟩ := rad_len (r := r) hc (by omega) hx hy
  have lx := qlen_i64 l1
  have ly := qlen_i64 l2
  refine Dr.mk (by decide +kernel) ?_
  refine CallV.to _ (r3_fromInt c.x l1) rfl ?_
  refine CallV.to _ (r3_subQ x (c.x : Rat) (by omega) (by omega)) rfl ?_
  refine CallV.to _ (r3_fromInt c.y l2) rfl ?_
  refine CallV.to _ (r3_subQ y (c.y : Rat) (by omega) (by omega)) rfl ?_
  refine Dr.mk (by decide +kernel) ?_
  have l65 := qlen_i64 (n := 4294967296) (by decide)
  refine CallV.to _ (r3_fromInt 4294967296 (by decide)) rfl ?_
  refine CallV.to _ (r32_dot (x - (c.x : Rat)) (y - (c.y : Rat)) (x - (c.x : Rat)) (y - (c.y : Rat)) (by omega) (by omega) (by omega) (by omega)) rfl ?_
  refine CallV.to _ (r3_mulQ ((4294967296 : Int) : Rat) _ (by omega) (by omega)) rfl ?_
  refine Ar.fit (by omega) ?_
  refine CallV.to _ (r3_fromInt (r * r) (by unfold R64; omega)) rfl ?_
  refine CallV.to _ (r3_quoQ (((4294967296 : Int) : Rat) * ((x - (c.x : Rat)) * (x - (c.x : Rat)) + (y - (c.y : Rat)) * (y - (c.y : Rat)))) ((r * r : Int) : Rat) (by omega) (by omega) (int_ne l3.1)) rfl ?_
  refine CallV.to _ (r3_floorQ (radF c r x y) (by omega)) rfl ?_
  have hs := r1_sqrt (digs (radF c r x y).floor.natAbs) (by omega)
  rw [val_digs] at hs
  refine CallV.to _ hs rfl ?_
  have hn := r2_newF (digs (isq (radF c r x y).floor.natAbs)) (by omega)
  rw [val_digs] at hn
  refine CallV.to _ hn rfl ?_
  refine CallV.to _ (c_cpos' (ofZ ((isq (radF c r x y).floor.natAbs : Nat) : Int)) (by show (digs _).length ≤ _; rw [Int.natAbs_natCast]; omega)) rfl ?_
  exact LE_int (by rw [radP, if_pos ⟨by omega, hc⟩, ofZ_v])

end Go.Gs
/- Paints: those that are the same; what is left without the fields of the kind. -/
namespace Go.Gs
open Go.Proofs

structure Pnt where
  k : Int
  c : Pix
  p0 : Pt
  p1 : Pt
  r : Int
  st : List Stop
  sp : Int
  im : Img
  sm : Int
  t : AF
def pntE (p : Pnt) : List SV :=
  i64 p.k :: u8 p.c.r :: u8 p.c.g :: u8 p.c.b :: u8 p.c.a :: i64 p.p0.x :: i64 p.p0.y :: i64 p.p1.x :: i64 p.p1.y :: i64 p.r :: .sl stopE p.st :: i64 p.sp :: i64 p.im.w :: i64 p.im.h :: .sl pixE p.im.px :: i64 p.sm :: afE p.t
def Pnt.same (p q : Pnt) : Prop := p.k = q.k ∧ p.c = q.c ∧ p.p0 = q.p0 ∧ p.p1 = q.p1 ∧ p.r = q.r ∧ p.st = q.st ∧ p.sp = q.sp ∧ p.im = q.im ∧ p.sm = q.sm ∧ p.t.same q.t
instance (p q : Pnt) : Decidable (p.same q) := inferInstanceAs (Decidable (_ ∧ _))

set_option maxRecDepth 100000 in
set_option maxHeartbeats 4000000 in
theorem c_pntequal (p q : Pnt) (hp : p.t.le 10000000) (hq : q.t.le 10000000) : CallsG Tryz.prog 118 [.agg (pntE p), .agg (pntE q)] [] (pr (p.same q)) [] := by
  refine calls_to tok mix Tryz.func118 rfl rfl rfl ?_
  refine Br.mk (fun h1 => ?_) (fun h1 => LE_false (fun e => h1 e.1))
  refine Br.mk (fun h2 => ?_) (fun h2 => LE_false (fun e => h2 (pix_eq.2 e.2.1)))
  refine Br.mk (fun h3 => ?_) (fun h3 => LE_false (fun e => h3 (pt_eq.2 e.2.2.1)))
  refine Br.mk (fun h4 => ?_) (fun h4 => LE_false (fun e => h4 (pt_eq.2 e.2.2.2.1)))
  refine Br.mk (fun h5 => ?_) (fun h5 => LE_false (fun e => h5 e.2.2.2.2.1))
  refine Br.mk (fun h6 => ?_) (fun h6 => LE_false (fun e => h6 e.2.2.2.2.2.2.1))
  refine Br.mk (fun h7 => ?_) (fun h7 => LE_false (fun e => h7 e.2.2.2.2.2.2.2.2.1))
  refine CallV.to _ (c_stseq p.st q.st) rfl ?_
  refine Br.mk (fun h8 => ?_) (fun h8 => LE_false (fun e => h8 e.2.2.2.2.2.1))
  refine CallV.to _ (c_equal p.im q.im) rfl ?_
  refine Br.mk (fun h9 => ?_) (fun h9 => LE_false (fun e => h9 e.2.2.2.2.2.2.2.1))
  refine CallV.to _ (a_equal p.t q.t hp hq) rfl ?_
  exact LE_pr ⟨fun h => ⟨h1, pix_eq.1 h2, pt_eq.1 h3, pt_eq.1 h4, h5, h8, h6, h9, h7, h⟩, fun e => e.2.2.2.2.2.2.2.2.2⟩

theorem LE_zt : LEs zero24 (afE zeroAF) := by
  have h0 : LEs z4 (brE zBR) := LE_zBR
  have h : LEs (z4 ++ (z4 ++ (z4 ++ (z4 ++ (z4 ++ z4))))) (afE zeroAF) := LEs.append h0 (LEs.append h0 (LEs.append h0 (LEs.append h0 (LEs.append h0 h0))))
  exact h

/-- A paint of a kind, all else zero. -/
def kindP (k : Int) : Pnt := ⟨k, zeroP, zp, zp, 0, [], 0, ⟨0, 0, []⟩, 0, zeroAF⟩
def nil1 : SV := .val (.slice none 0 0)
theorem LE_kindP (k : Int) : LE (.agg (i64 k :: u8 0 :: u8 0 :: u8 0 :: u8 0 :: i64 0 :: i64 0 :: i64 0 :: i64 0 :: i64 0 :: nil1 :: i64 0 :: i64 0 :: i64 0 :: nil1 :: i64 0 :: zero24)) (.agg (pntE (kindP k))) := by
  have h := LE_zt
  exact LE_agg (.cons .refl (.cons .refl (.cons .refl (.cons .refl (.cons .refl (.cons .refl (.cons .refl (.cons .refl (.cons .refl (.cons .refl (.cons LE_nil0 (.cons .refl (.cons .refl (.cons .refl (.cons LE_nil0 (.cons .refl h))))))))))))))))

/-- Without the fields of the kind. -/
def bareP (p : Pnt) : Pnt :=
  if p.k = 1 then { p with c := zeroP, t := zeroAF } else if p.k = 2 then { p with p0 := zp, p1 := zp, st := [], sp := 0, t := zeroAF }
  else if p.k = 3 then { p with p0 := zp, r := 0, st := [], sp := 0, t := zeroAF } else if p.k = 4 then { p with im := ⟨0, 0, []⟩, sp := 0, sm := 0, t := zeroAF } else { p with t := zeroAF }

set_option maxRecDepth 100000 in
set_option maxHeartbeats 4000000 in
theorem c_without (p : Pnt) : CallsG Tryz.prog 119 [.agg (pntE p)] [] (.agg (pntE (bareP p))) [] := by
  have fin : ∀ {σ : SV} {q : Pnt}, bareP p = q → LE σ (.agg (pntE q)) → LE σ (.agg (pntE (bareP p))) := fun e h => e ▸ h
  refine calls_to tok mix Tryz.func119 rfl rfl rfl ?_
  refine Br.mk (fun h1 => ?_) (fun h1 => ?_)
  · refine fin (q := { p with c := zeroP, t := zeroAF }) (by rw [bareP, if_pos h1]) ?_
    exact LE_agg (.cons .refl (.cons .refl (.cons .refl (.cons .refl (.cons .refl (.cons .refl (.cons .refl (.cons .refl (.cons .refl (.cons .refl (.cons .refl (.cons .refl (.cons .refl (.cons .refl (.cons .refl (.cons .refl LE_zt))))))))))))))))
  refine Br.mk (fun h2 => ?_) (fun h2 => ?_)
  · refine fin (q := { p with p0 := zp, p1 := zp, st := [], sp := 0, t := zeroAF }) (by rw [bareP, if_neg h1, if_pos h2]) ?_
    exact LE_agg (.cons .refl (.cons .refl (.cons .refl (.cons .refl (.cons .refl (.cons .refl (.cons .refl (.cons .refl (.cons .refl (.cons .refl (.cons LE_nil0 (.cons .refl (.cons .refl (.cons .refl (.cons .refl (.cons .refl LE_zt))))))))))))))))
  refine Br.mk (fun h3 => ?_) (fun h3 => ?_)
  · refine fin (q := { p with p0 := zp, r := 0, st := [], sp := 0, t := zeroAF }) (by rw [bareP, if_neg h1, if_neg h2, if_pos h3]) ?_
    exact LE_agg (.cons .refl (.cons .refl (.cons .refl (.cons .refl (.cons .refl (.cons .refl (.cons .refl (.cons .refl (.cons .refl (.cons .refl (.cons LE_nil0 (.cons .refl (.cons .refl (.cons .refl (.cons .refl (.cons .refl LE_zt))))))))))))))))
  refine Br.mk (fun h4 => ?_) (fun h4 => ?_)
  · refine fin (q := { p with im := ⟨0, 0, []⟩, sp := 0, sm := 0, t := zeroAF }) (by rw [bareP, if_neg h1, if_neg h2, if_neg h3, if_pos h4]) ?_
    exact LE_agg (.cons .refl (.cons .refl (.cons .refl (.cons .refl (.cons .refl (.cons .refl (.cons .refl (.cons .refl (.cons .refl (.cons .refl (.cons .refl (.cons .refl (.cons .refl (.cons .refl (.cons LE_nil0 (.cons .refl LE_zt))))))))))))))))
  · refine fin (q := { p with t := zeroAF }) (by rw [bareP, if_neg h1, if_neg h2, if_neg h3, if_neg h4]) ?_
    exact LE_agg (.cons .refl (.cons .refl (.cons .refl (.cons .refl (.cons .refl (.cons .refl (.cons .refl (.cons .refl (.cons .refl (.cons .refl (.cons .refl (.cons .refl (.cons .refl (.cons .refl (.cons .refl (.cons .refl LE_zt))))))))))))))))

theorem c_validspread (n : Int) : CallsG Tryz.prog 123 [i64 n] [] (pr (spOK n)) [] := by
  refine calls_to tok mix Tryz.func123 rfl rfl rfl ?_
  refine Br.mk (fun h1 => ?_) (fun h1 => LE_false (fun h => h1 h.1))
  exact LE_pr ⟨fun h => ⟨h1, h⟩, fun h => h.2⟩
theorem c_validspread' (n : Int) : CallsG Tryz.prog 296 [i64 n] [] (pr (spOK n)) [] := by
  refine calls_to tok mix Tryz.func296 rfl rfl rfl ?_
  refine Br.mk (fun h1 => ?_) (fun h1 => LE_false (fun h => h1 h.1))
  exact LE_pr ⟨fun h => ⟨h1, h⟩, fun h => h.2⟩
theorem c_validstops (p : Pnt) : CallsG Tryz.prog 122 [.agg (pntE p)] [] (pr (stopsOK p.st ∧ spOK p.sp)) [] := by
  refine calls_to tok mix Tryz.func122 rfl rfl rfl ?_
  refine CallV.to _ (c_gvalid p.st) rfl ?_
  refine Br.mk (fun h1 => ?_) (fun h1 => LE_false (fun h => h1 h.1))
  refine CallV.to _ (c_validspread p.sp) rfl ?_
  exact LE_pr ⟨fun h => ⟨h1, h⟩, fun h => h.2⟩

end Go.Gs
/- Paints that may be. -/
namespace Go.Gs
open Go.Proofs

def noImg (p : Pnt) : Prop := p.im.w = 0 ∧ p.im.h = 0 ∧ p.im.px = [] ∧ p.sm = 0
instance (p : Pnt) : Decidable (noImg p) := inferInstanceAs (Decidable (_ ∧ _))
def noRamp (p : Pnt) : Prop := p.p0 = zp ∧ p.p1 = zp ∧ p.r = 0 ∧ p.st = []
instance (p : Pnt) : Decidable (noRamp p) := inferInstanceAs (Decidable (_ ∧ _))
def has1 (p : Pnt) : Prop := noRamp p ∧ noImg p ∧ p.sp = 0 ∧ p.t.same zeroAF
instance (p : Pnt) : Decidable (has1 p) := inferInstanceAs (Decidable (_ ∧ _))
def has2 (p : Pnt) : Prop := noImg p ∧ p.c = zeroP ∧ p.r = 0 ∧ ptOK p.p0 ∧ ptOK p.p1 ∧ stopsOK p.st ∧ spOK p.sp
instance (p : Pnt) : Decidable (has2 p) := inferInstanceAs (Decidable (_ ∧ _))
def has3 (p : Pnt) : Prop := noImg p ∧ p.c = zeroP ∧ p.p1 = zp ∧ ptOK p.p0 ∧ 1 ≤ p.r ∧ p.r ≤ 1048576 ∧ stopsOK p.st ∧ spOK p.sp
instance (p : Pnt) : Decidable (has3 p) := inferInstanceAs (Decidable (_ ∧ _))
def has4 (p : Pnt) : Prop := noRamp p ∧ p.c = zeroP ∧ imgOK p.im ∧ (p.sp = 0 ∨ spOK p.sp) ∧ (p.sm = 1 ∨ p.sm = 2)
instance (p : Pnt) : Decidable (has4 p) := inferInstanceAs (Decidable (_ ∧ _))
def hasP (p : Pnt) : Prop := (p.k = 1 ∧ has1 p) ∨ (p.k = 2 ∧ has2 p) ∨ (p.k = 3 ∧ has3 p) ∨ (p.k = 4 ∧ has4 p)
instance (p : Pnt) : Decidable (hasP p) := inferInstanceAs (Decidable (_ ∨ _))
def pntOK (p : Pnt) : Prop := p.t.ok ∧ hasP p ∧ (p.k = 1 ∨ detQ p.t ≠ 0)
instance (p : Pnt) : Decidable (pntOK p) := inferInstanceAs (Decidable (_ ∧ _))

theorem bare1 {p : Pnt} (h : p.k = 1) : (bareP p).same (kindP p.k) ↔ noRamp p ∧ noImg p ∧ p.sp = 0 := by
  rw [bareP, if_pos h]
  rcases p with ⟨k, c, p0, p1, r, st, sp, ⟨w, hh, px⟩, sm, t⟩
  simp only [Pnt.same, kindP, noRamp, noImg, Img.mk.injEq]
  constructor
  · rintro ⟨_, _, h3, h4, h5, h6, h7, ⟨h8, h9, h10⟩, h11, _⟩
    exact ⟨⟨h3, h4, h5, h6⟩, ⟨h8, h9, h10, h11⟩, h7⟩
  · rintro ⟨⟨h3, h4, h5, h6⟩, ⟨h8, h9, h10, h11⟩, h7⟩
    exact ⟨trivial, trivial, h3, h4, h5, h6, h7, ⟨h8, h9, h10⟩, h11, rfl, rfl, rfl, rfl, rfl, rfl⟩
theorem bare2 {p : Pnt} (h : p.k = 2) : (bareP p).same (kindP p.k) ↔ noImg p ∧ p.c = zeroP ∧ p.r = 0 := by
  rw [bareP, if_neg (by omega), if_pos h]
  rcases p with ⟨k, c, p0, p1, r, st, sp, ⟨w, hh, px⟩, sm, t⟩
  simp only [Pnt.same, kindP, noImg, Img.mk.injEq]
  constructor
  · rintro ⟨_, h2, _, _, h5, _, _, ⟨h8, h9, h10⟩, h11, _⟩
    exact ⟨⟨h8, h9, h10, h11⟩, h2, h5⟩
  · rintro ⟨⟨h8, h9, h10, h11⟩, h2, h5⟩
    exact ⟨trivial, h2, trivial, trivial, h5, trivial, trivial, ⟨h8, h9, h10⟩, h11, rfl, rfl, rfl, rfl, rfl, rfl⟩
theorem bare3 {p : Pnt} (h : p.k = 3) : (bareP p).same (kindP p.k) ↔ noImg p ∧ p.c = zeroP ∧ p.p1 = zp := by
  rw [bareP, if_neg (by omega), if_neg (by omega), if_pos h]
  rcases p with ⟨k, c, p0, p1, r, st, sp, ⟨w, hh, px⟩, sm, t⟩
  simp only [Pnt.same, kindP, noImg, Img.mk.injEq]
  constructor
  · rintro ⟨_, h2, _, h4, _, _, _, ⟨h8, h9, h10⟩, h11, _⟩
    exact ⟨⟨h8, h9, h10, h11⟩, h2, h4⟩
  · rintro ⟨⟨h8, h9, h10, h11⟩, h2, h4⟩
    exact ⟨trivial, h2, trivial, h4, trivial, trivial, trivial, ⟨h8, h9, h10⟩, h11, rfl, rfl, rfl, rfl, rfl, rfl⟩
theorem bare4 {p : Pnt} (h : p.k = 4) : (bareP p).same (kindP p.k) ↔ noRamp p ∧ p.c = zeroP := by
  rw [bareP, if_neg (by omega), if_neg (by omega), if_neg (by omega), if_pos h]
  rcases p with ⟨k, c, p0, p1, r, st, sp, ⟨w, hh, px⟩, sm, t⟩
  simp only [Pnt.same, kindP, noRamp]
  constructor
  · rintro ⟨_, h2, h3, h4, h5, h6, _⟩
    exact ⟨⟨h3, h4, h5, h6⟩, h2⟩
  · rintro ⟨⟨h3, h4, h5, h6⟩, h2⟩
    exact ⟨trivial, h2, h3, h4, h5, h6, trivial, trivial, trivial, rfl, rfl, rfl, rfl, rfl, rfl⟩

theorem bareP_t (p : Pnt) : (bareP p).t = zeroAF := by
  unfold bareP; repeat (first | rfl | split)
theorem zeroAF_le (n : Nat) : zeroAF.le n := ⟨Nat.zero_le _, Nat.zero_le _, Nat.zero_le _, Nat.zero_le _, Nat.zero_le _, Nat.zero_le _⟩
theorem cmp_zero (x : Rat) : ¬ cmpQ x 0 = 0 ↔ x ≠ 0 := by
  have h1 := cmpQ_ge (x := x) (y := 0)
  have h2 := cmpQ_le (x := x) (y := 0)
  constructor
  · rintro h rfl
    exact h (Int.le_antisymm (h2.2 Rat.le_refl) (h1.2 Rat.le_refl))
  · intro h k
    exact h (Rat.le_antisymm (h2.1 (by omega)) (h1.1 (by omega)))

theorem detQ_len {t : AF} {n : Nat} (h : t.le n) : qlen (detQ t) ≤ 4 * n + 5 := by
  obtain ⟨ha, hb, hc, hd, _, _⟩ := h
  have h1 := qlen_sub (t.a.v * t.d.v) (t.b.v * t.c.v)
  have h2 := qlen_mul t.a.v t.d.v
  have h3 := qlen_mul t.b.v t.c.v
  have h4 := qlen_v t.a
  have h5 := qlen_v t.b
  have h6 := qlen_v t.c
  have h7 := qlen_v t.d
  unfold detQ; omega

set_option maxRecDepth 100000 in
set_option maxHeartbeats 4000000 in
theorem c_pntvalid (p : Pnt) (hp : p.t.le 1000) (hl : p.im.px.length ≤ 9223372036854775807) : CallsG Tryz.prog 86 [.agg (pntE p)] [] (pr (pntOK p)) [] := by
  refine calls_to tok mix Tryz.func86 rfl rfl rfl ?_
  have hp7 : p.t.le 10000000 := hp.up (by decide)
  refine Dr.mk (by decide +kernel) ?_
  refine CallV.to _ (a_valid p.t (hp.up (by decide))) rfl ?_
  refine Br.mk (fun h1 => LE_false (fun k => h1 k.1)) (fun h1 => ?_)
  have h1 := Decidable.not_not.1 h1
  refine CallV.to _ (c_without p) rfl ?_
  refine CallV.to _ ((c_pntequal (bareP p) (kindP p.k) (by rw [bareP_t]; exact zeroAF_le _) (zeroAF_le _)).args (.cons .refl (.cons (LE_kindP p.k) .nil))) rfl ?_
  have only : p.k = 1 ∨ p.k = 2 ∨ p.k = 3 ∨ p.k = 4 → ¬ (bareP p).same (kindP p.k) → ¬ hasP p := by
    intro _ h2 k
    rcases k with ⟨e, k⟩ | ⟨e, k⟩ | ⟨e, k⟩ | ⟨e, k⟩
    · exact h2 ((bare1 e).2 ⟨k.1, k.2.1, k.2.2.1⟩)
    · exact h2 ((bare2 e).2 ⟨k.1, k.2.1, k.2.2.1⟩)
    · exact h2 ((bare3 e).2 ⟨k.1, k.2.1, k.2.2.1⟩)
    · exact h2 ((bare4 e).2 ⟨k.1, k.2.1⟩)
  refine Br.mk (fun h2 => LE_false (fun k => only (by rcases k.2.1 with h | h | h | h <;> omega) h2 k.2.1)) (fun h2 => ?_)
  have h2 := Decidable.not_not.1 h2
  have hcmp := q_cmp (ofQ (detQ p.t)) zBR (by have := detQ_len hp; rw [ofQ_len]; omega) (Nat.zero_le _)
  rw [ofQ_v, zBR_v] at hcmp
  have det := hcmp.args (args := [.agg (brE (ofQ (detQ p.t))), .agg [bl false, .val (.slice none 0 0), bl false, .val (.slice none 0 0)]]) (.cons .refl (.cons (LE_agg LE_zBR) .nil))
  refine Br.mk (fun k1 => ?_) (fun k1 => ?_)
  · have hb := (bare1 k1).1 h2
    refine CallV.to _ ((a_equal p.t zeroAF hp7 (zeroAF_le _)).args (.cons .refl (.cons LE_zero24 .nil))) rfl ?_
    refine LE_pr ⟨fun h => ⟨h1, .inl ⟨k1, hb.1, hb.2.1, hb.2.2, h⟩, .inl k1⟩, fun h => ?_⟩
    rcases h.2.1 with ⟨e, k⟩ | ⟨e, _⟩ | ⟨e, _⟩ | ⟨e, _⟩
    · exact k.2.2.2
    all_goals omega
  refine Br.mk (fun k2 => ?_) (fun k2 => ?_)
  · have hb := (bare2 k2).1 h2
    have get : pntOK p → has2 p := fun h => by
      rcases h.2.1 with ⟨e, _⟩ | ⟨e, k⟩ | ⟨e, _⟩ | ⟨e, _⟩
      · omega
      · exact k
      all_goals omega
    refine CallV.to _ (c_vvalid p.p0) rfl ?_
    refine Br.mk (fun h3 => LE_false (fun k => h3 (get k).2.2.2.1)) (fun h3 => ?_)
    refine CallV.to _ (c_vvalid p.p1) rfl ?_
    refine Br.mk (fun h4 => LE_false (fun k => h4 (get k).2.2.2.2.1)) (fun h4 => ?_)
    refine CallV.to _ (c_validstops p) rfl ?_
    refine Br.mk (fun h5 => LE_false (fun k => h5 (get k).2.2.2.2.2)) (fun h5 => ?_)
    refine CallV.to _ (a_det p.t hp7) rfl ?_
    refine CallV.to _ det rfl ?_
    refine LE_pr ((cmp_zero _).trans ⟨fun h => ⟨h1, .inr (.inl ⟨k2, hb.1, hb.2.1, hb.2.2, Decidable.not_not.1 h3, Decidable.not_not.1 h4, Decidable.not_not.1 h5⟩), .inr h⟩, fun h => h.2.2.resolve_left (by omega)⟩)
  refine Br.mk (fun k3 => ?_) (fun k3 => ?_)
  · have hb := (bare3 k3).1 h2
    have get : pntOK p → has3 p := fun h => by
      rcases h.2.1 with ⟨e, _⟩ | ⟨e, _⟩ | ⟨e, k⟩ | ⟨e, _⟩
      · omega
      · omega
      · exact k
      · omega
    refine CallV.to _ (c_vvalid p.p0) rfl ?_
    refine Br.mk (fun h3 => LE_false (fun k => h3 (get k).2.2.2.1)) (fun h3 => ?_)
    refine Br.mk (fun h4 => LE_false (fun k => by have := (get k).2.2.2.2.1; omega)) (fun h4 => ?_)
    refine Br.mk (fun h5 => LE_false (fun k => by have := (get k).2.2.2.2.2.1; omega)) (fun h5 => ?_)
    refine CallV.to _ (c_validstops p) rfl ?_
    refine Br.mk (fun h6 => LE_false (fun k => h6 (get k).2.2.2.2.2.2)) (fun h6 => ?_)
    refine CallV.to _ (a_det p.t hp7) rfl ?_
    refine CallV.to _ det rfl ?_
    refine LE_pr ((cmp_zero _).trans ⟨fun h => ⟨h1, .inr (.inr (.inl ⟨k3, hb.1, hb.2.1, hb.2.2, Decidable.not_not.1 h3, by omega, by omega, Decidable.not_not.1 h6⟩)), .inr h⟩, fun h => h.2.2.resolve_left (by omega)⟩)
  refine Br.mk (fun k4 => ?_) (fun k4 => ?_)
  · have hb := (bare4 k4).1 h2
    have get : pntOK p → has4 p := fun h => by
      rcases h.2.1 with ⟨e, _⟩ | ⟨e, _⟩ | ⟨e, _⟩ | ⟨e, k⟩
      · omega
      · omega
      · omega
      · exact k
    refine CallV.to _ (c_valid p.im hl) rfl ?_
    refine Br.mk (fun h3 => LE_false (fun k => h3 (get k).2.2.1)) (fun h3 => ?_)
    refine Br.mk (fun h4 => ?_) (fun h4 => ?_)
    · refine CallV.to _ (c_validspread p.sp) rfl ?_
      refine Br.mk (fun h5 => LE_false (fun k => by rcases (get k).2.2.2.1 with h | h; exact h4 h; exact h5 h)) (fun h5 => ?_)
      refine Br.mk (fun h6 => ?_) (fun h6 => ?_)
      · refine Br.mk (fun h7 => LE_false (fun k => by have := (get k).2.2.2.2; omega)) (fun h7 => ?_)
        refine CallV.to _ (a_det p.t hp7) rfl ?_
        refine CallV.to _ det rfl ?_
        refine LE_pr ((cmp_zero _).trans ⟨fun h => ⟨h1, .inr (.inr (.inr ⟨k4, hb.1, hb.2, Decidable.not_not.1 h3, .inr (Decidable.not_not.1 h5), by omega⟩)), .inr h⟩, fun h => h.2.2.resolve_left (by omega)⟩)
      · refine CallV.to _ (a_det p.t hp7) rfl ?_
        refine CallV.to _ det rfl ?_
        refine LE_pr ((cmp_zero _).trans ⟨fun h => ⟨h1, .inr (.inr (.inr ⟨k4, hb.1, hb.2, Decidable.not_not.1 h3, .inr (Decidable.not_not.1 h5), by omega⟩)), .inr h⟩, fun h => h.2.2.resolve_left (by omega)⟩)
    · refine Br.mk (fun h6 => ?_) (fun h6 => ?_)
      · refine Br.mk (fun h7 => LE_false (fun k => by have := (get k).2.2.2.2; omega)) (fun h7 => ?_)
        refine CallV.to _ (a_det p.t hp7) rfl ?_
        refine CallV.to _ det rfl ?_
        refine LE_pr ((cmp_zero _).trans ⟨fun h => ⟨h1, .inr (.inr (.inr ⟨k4, hb.1, hb.2, Decidable.not_not.1 h3, .inl (by omega), by omega⟩)), .inr h⟩, fun h => h.2.2.resolve_left (by omega)⟩)
      · refine CallV.to _ (a_det p.t hp7) rfl ?_
        refine CallV.to _ det rfl ?_
        refine LE_pr ((cmp_zero _).trans ⟨fun h => ⟨h1, .inr (.inr (.inr ⟨k4, hb.1, hb.2, Decidable.not_not.1 h3, .inl (by omega), by omega⟩)), .inr h⟩, fun h => h.2.2.resolve_left (by omega)⟩)
  · exact LE_false (fun k => by rcases k.2.1 with ⟨e, _⟩ | ⟨e, _⟩ | ⟨e, _⟩ | ⟨e, _⟩ <;> omega)

end Go.Gs
/- Paints that may be, the other text; small ones. -/
namespace Go.Gs
open Go.Proofs

theorem pix_z {p : Pix} : (p.r = 0 ∧ p.g = 0 ∧ p.b = 0 ∧ p.a = 0 ∧ True) ↔ p = zeroP := pix_eq (q := zeroP)
theorem pt_z {p : Pt} : (p.x = 0 ∧ p.y = 0 ∧ True) ↔ p = zp := pt_eq (q := zp)
theorem c_ramp (p : Pnt) : CallsG Tryz.prog 293 [.agg (pntE p)] [] (pr (noRamp p)) [] := by
  refine calls_to tok mix Tryz.func293 rfl rfl rfl ?_
  refine Br.mk (fun h1 => ?_) (fun h1 => LE_false (fun h => h1 (pt_eq.2 h.1)))
  refine Br.mk (fun h2 => ?_) (fun h2 => LE_false (fun h => h2 (pt_eq.2 h.2.1)))
  refine Br.mk (fun h3 => ?_) (fun h3 => LE_false (fun h => h3 h.2.2.1))
  intro hl
  exact LE_pr ⟨fun h => ⟨pt_z.1 h1, pt_z.1 h2, h3, List.length_eq_zero_iff.1 (by omega)⟩, fun h => by rw [h.2.2.2]; rfl⟩

theorem c_noimage (p : Pnt) : CallsG Tryz.prog 294 [.agg (pntE p)] [] (pr (noImg p)) [] := by
  refine calls_to tok mix Tryz.func294 rfl rfl rfl ?_
  refine Br.mk (fun h1 => ?_) (fun h1 => LE_false (fun h => h1 h.1))
  refine Br.mk (fun h2 => ?_) (fun h2 => LE_false (fun h => h2 h.2.1))
  intro hl
  refine Br.mk (fun h3 => ?_) (fun h3 => LE_false (fun h => h3 (by rw [h.2.2.1]; rfl)))
  exact LE_pr ⟨fun h => ⟨h1, h2, List.length_eq_zero_iff.1 (by omega), h⟩, fun h => h.2.2.2⟩

theorem c_zerot (t : AF) (ht : t.le 10000000) : CallsG Tryz.prog 295 [.agg (afE t)] [] (pr (t.same zeroAF)) [] := by
  refine calls_to tok mix Tryz.func295 rfl rfl rfl ?_
  refine CallV.to _ ((r12_equal t zeroAF ht (zeroAF_le _)).args (.cons .refl (.cons LE_zero24 .nil))) rfl ?_
  exact .refl

set_option maxRecDepth 100000 in
set_option maxHeartbeats 4000000 in
theorem c_has (p : Pnt) (hp : p.t.le 10000000) : CallsG Tryz.prog 255 [.agg (pntE p)] [] (pr (hasP p)) [] := by
  refine calls_to tok mix Tryz.func255 rfl rfl rfl ?_
  refine Br.mk (fun k1 => ?_) (fun k1 => ?_)
  · have get : hasP p → has1 p := fun h => by rcases h with ⟨e, k⟩ | ⟨e, k⟩ | ⟨e, k⟩ | ⟨e, k⟩ <;> first | exact k | omega
    refine CallV.to _ (c_ramp p) rfl ?_
    refine Br.mk (fun h1 => ?_) (fun h1 => LE_false (fun k => h1 (get k).1))
    refine CallV.to _ (c_noimage p) rfl ?_
    refine Br.mk (fun h2 => ?_) (fun h2 => LE_false (fun k => h2 (get k).2.1))
    refine Br.mk (fun h3 => ?_) (fun h3 => LE_false (fun k => h3 (get k).2.2.1))
    refine CallV.to _ (c_zerot p.t hp) rfl ?_
    exact LE_pr ⟨fun h => .inl ⟨k1, h1, h2, h3, h⟩, fun k => (get k).2.2.2⟩
  refine Br.mk (fun k2 => ?_) (fun k2 => ?_)
  · have get : hasP p → has2 p := fun h => by rcases h with ⟨e, k⟩ | ⟨e, k⟩ | ⟨e, k⟩ | ⟨e, k⟩ <;> first | exact k | omega
    refine CallV.to _ (c_noimage p) rfl ?_
    refine Br.mk (fun h1 => ?_) (fun h1 => LE_false (fun k => h1 (get k).1))
    refine Br.mk (fun h2 => ?_) (fun h2 => LE_false (fun k => h2 (pix_z.2 (get k).2.1)))
    refine Br.mk (fun h3 => ?_) (fun h3 => LE_false (fun k => h3 (get k).2.2.1))
    refine CallV.to _ (c_ptvalid' p.p0) rfl ?_
    refine Br.mk (fun h4 => ?_) (fun h4 => LE_false (fun k => h4 (get k).2.2.2.1))
    refine CallV.to _ (c_ptvalid' p.p1) rfl ?_
    refine Br.mk (fun h5 => ?_) (fun h5 => LE_false (fun k => h5 (get k).2.2.2.2.1))
    refine CallV.to _ (c_gvalid' p.st) rfl ?_
    refine Br.mk (fun h6 => ?_) (fun h6 => LE_false (fun k => h6 (get k).2.2.2.2.2.1))
    refine CallV.to _ (c_validspread' p.sp) rfl ?_
    exact LE_pr ⟨fun h => .inr (.inl ⟨k2, h1, pix_z.1 h2, h3, h4, h5, h6, h⟩), fun k => (get k).2.2.2.2.2.2⟩
  refine Br.mk (fun k3 => ?_) (fun k3 => ?_)
  · have get : hasP p → has3 p := fun h => by rcases h with ⟨e, k⟩ | ⟨e, k⟩ | ⟨e, k⟩ | ⟨e, k⟩ <;> first | exact k | omega
    refine CallV.to _ (c_noimage p) rfl ?_
    refine Br.mk (fun h1 => ?_) (fun h1 => LE_false (fun k => h1 (get k).1))
    refine Br.mk (fun h2 => ?_) (fun h2 => LE_false (fun k => h2 (pix_z.2 (get k).2.1)))
    refine Br.mk (fun h3 => ?_) (fun h3 => LE_false (fun k => h3 (pt_z.2 (get k).2.2.1)))
    refine CallV.to _ (c_ptvalid' p.p0) rfl ?_
    refine Br.mk (fun h4 => ?_) (fun h4 => LE_false (fun k => h4 (get k).2.2.2.1))
    refine Br.mk (fun h5 => ?_) (fun h5 => LE_false (fun k => h5 (get k).2.2.2.2.1))
    refine Br.mk (fun h6 => ?_) (fun h6 => LE_false (fun k => h6 (get k).2.2.2.2.2.1))
    refine CallV.to _ (c_gvalid' p.st) rfl ?_
    refine Br.mk (fun h7 => ?_) (fun h7 => LE_false (fun k => h7 (get k).2.2.2.2.2.2.1))
    refine CallV.to _ (c_validspread' p.sp) rfl ?_
    exact LE_pr ⟨fun h => .inr (.inr (.inl ⟨k3, h1, pix_z.1 h2, pt_z.1 h3, h4, h5, h6, h7, h⟩)), fun k => (get k).2.2.2.2.2.2.2⟩
  refine Br.mk (fun k4 => ?_) (fun k4 => ?_)
  · have get : hasP p → has4 p := fun h => by rcases h with ⟨e, k⟩ | ⟨e, k⟩ | ⟨e, k⟩ | ⟨e, k⟩ <;> first | exact k | omega
    refine CallV.to _ (c_ramp p) rfl ?_
    refine Br.mk (fun h1 => ?_) (fun h1 => LE_false (fun k => h1 (get k).1))
    refine Br.mk (fun h2 => ?_) (fun h2 => LE_false (fun k => h2 (pix_z.2 (get k).2.1)))
    refine CallV.to _ (c_valid' p.im) rfl ?_
    refine Br.mk (fun h3 => ?_) (fun h3 => LE_false (fun k => h3 (get k).2.2.1))
    have yes : (p.sp = 0 ∨ spOK p.sp) → (p.sm = 1 ∨ p.sm = 2) → hasP p := fun a b => .inr (.inr (.inr ⟨k4, h1, pix_z.1 h2, h3, a, b⟩))
    refine Br.mk (fun h4 => ?_) (fun h4 => ?_)
    · refine Br.mk (fun h5 => LE_true (yes (.inl h4) (.inl h5))) (fun h5 => ?_)
      exact LE_pr ⟨fun h => yes (.inl h4) (.inr h), fun k => (get k).2.2.2.2.resolve_left h5⟩
    · refine CallV.to _ (c_validspread' p.sp) rfl ?_
      refine Br.mk (fun h6 => ?_) (fun h6 => LE_false (fun k => by rcases (get k).2.2.2.1 with h | h; exact h4 h; exact h6 h))
      refine Br.mk (fun h5 => LE_true (yes (.inr h6) (.inl h5))) (fun h5 => ?_)
      exact LE_pr ⟨fun h => yes (.inr h6) (.inr h), fun k => (get k).2.2.2.2.resolve_left h5⟩
  · exact LE_false (fun k => by rcases k with ⟨e, _⟩ | ⟨e, _⟩ | ⟨e, _⟩ | ⟨e, _⟩ <;> omega)

set_option maxRecDepth 100000 in
set_option maxHeartbeats 4000000 in
theorem c_pntvalid' (p : Pnt) (hp : p.t.le 1000) : CallsG Tryz.prog 199 [.agg (pntE p)] [] (pr (pntOK p)) [] := by
  refine calls_to tok mix Tryz.func199 rfl rfl rfl ?_
  refine CallV.to _ (r12_valid p.t (hp.up (by decide))) rfl ?_
  refine Br.mk (fun h1 => LE_false (fun k => h1 k.1)) (fun h1 => ?_)
  have h1 := Decidable.not_not.1 h1
  refine CallV.to _ (c_has p (hp.up (by decide))) rfl ?_
  refine Br.mk (fun h2 => LE_false (fun k => h2 k.2.1)) (fun h2 => ?_)
  have h2 := Decidable.not_not.1 h2
  refine Br.mk (fun h3 => LE_true ⟨h1, h2, .inl h3⟩) (fun h3 => ?_)
  refine CallV.to _ (r12_det p.t (hp.up (by decide))) rfl ?_
  have hz := r3_fromInt 0 (by decide)
  refine CallV.to _ hz rfl ?_
  have hcmp := r3_cmp (ofQ (detQ p.t)) (ofQ ((0 : Int) : Rat)) (by have := detQ_len hp; rw [ofQ_len]; omega) (by have := qlen_i64 (n := 0) (by decide); rw [ofQ_len]; omega)
  rw [ofQ_v, ofQ_v] at hcmp
  refine CallV.to _ hcmp rfl ?_
  refine LE_pr ((cmp_zero _).trans ⟨fun h => ⟨h1, h2, .inr h⟩, fun h => h.2.2.resolve_left h3⟩)

def fewP (p : Pnt) : Prop := (p.st.length : Int) ≤ 40 ∧ (p.im.px.length : Int) ≤ 300 ∧ p.t.le 12
instance (t : AF) (n : Nat) : Decidable (t.le n) := inferInstanceAs (Decidable (_ ∧ _))
instance (p : Pnt) : Decidable (fewP p) := inferInstanceAs (Decidable (_ ∧ _))

theorem le_len (a : BR) : (a.len ≤ 12 ↔ (a.num.mag.length : Int) ≤ 12 ∧ (a.den.mag.length : Int) ≤ 12) := by
  unfold BR.len; omega

end Go.Gs
/- Samples of a picture, the program's: Sample. -/
namespace Go.Gs
open Go.Proofs

def smp (m : Img) (look md : Int) (x y : Rat) : Pix :=
  if (look = 1 ∨ look = 2) ∧ imgOK m ∧ nearQ x ∧ nearQ y then (if look = 2 then smoothP m md x y else texelI m (flo x) (flo y) md) else zeroP

set_option maxRecDepth 100000 in
set_option maxHeartbeats 4000000 in
theorem c_sample (m : Img) (look md : Int) (a b : BR) (hl : m.px.length ≤ 9223372036854775807) (h8 : ∀ q ∈ m.px, P8 q) (ha : a.len ≤ 1000000) (hb : b.len ≤ 1000000) :
    CallsG Tryz.prog 341 [.agg (imgE m), i64 look, i64 md, .agg (brE a), .agg (brE b)] [] (.agg (pixE (smp m look md a.v b.v))) [] := by
  refine calls_to tok mix Tryz.func341 rfl rfl rfl ?_
  have no : ¬ ((look = 1 ∨ look = 2) ∧ imgOK m ∧ nearQ a.v ∧ nearQ b.v) → LE (.agg (pixE zeroP)) (.agg (pixE (smp m look md a.v b.v))) := fun h => by
    unfold smp; rw [if_neg h]; exact .refl
  refine Br.mk (fun h => absurd h (by decide)) (fun _ => ?_)
  refine Br.mk (fun e => ?_) (fun e => ?_)
  · refine CallV.to _ (c_valid m hl) rfl ?_
    refine Br.mk (fun h1 => no fun h => h1 h.2.1) (fun h1 => ?_)
    have h1 := Decidable.not_not.1 h1
    refine CallV.to _ (c_inear a (by omega)) rfl ?_
    refine Br.mk (fun h2 => no fun h => h2 h.2.2.1) (fun h2 => ?_)
    have h2 := Decidable.not_not.1 h2
    refine CallV.to _ (c_inear b (by omega)) rfl ?_
    refine Br.mk (fun h3 => no fun h => h3 h.2.2.2) (fun h3 => ?_)
    have h3 := Decidable.not_not.1 h3
    refine CallV.to _ (c_inearest m md a b h1 (by omega) (by omega)) rfl ?_
    have : smp m look md a.v b.v = texelI m (flo a.v) (flo b.v) md := by
      unfold smp; rw [if_pos ⟨.inl e, h1, h2, h3⟩, if_neg (by omega)]
    rw [this]
    exact .refl
  refine Br.mk (fun e2 => ?_) (fun e2 => ?_)
  · refine CallV.to _ (c_valid m hl) rfl ?_
    refine Br.mk (fun h1 => no fun h => h1 h.2.1) (fun h1 => ?_)
    have h1 := Decidable.not_not.1 h1
    refine CallV.to _ (c_inear a (by omega)) rfl ?_
    refine Br.mk (fun h2 => no fun h => h2 h.2.2.1) (fun h2 => ?_)
    have h2 := Decidable.not_not.1 h2
    refine CallV.to _ (c_inear b (by omega)) rfl ?_
    refine Br.mk (fun h3 => no fun h => h3 h.2.2.2) (fun h3 => ?_)
    have h3 := Decidable.not_not.1 h3
    refine CallV.to _ (c_smooth m md a b h1 h8 ha hb) rfl ?_
    have : smp m look md a.v b.v = smoothP m md a.v b.v := by
      unfold smp; rw [if_pos ⟨.inr e2, h1, h2, h3⟩, if_pos e2]
    rw [this]
    exact .refl
  · exact no fun h => h.1.elim e e2

end Go.Gs
/- Samples of a picture, the other text's; the law. -/
namespace Go.Gs
open Go.Proofs

theorem c_inrange (a : BR) (ha : a.len ≤ 10000000) : CallsG Tryz.prog 220 [.agg (brE a)] [] (pr (nearQ a.v)) [] := by
  have l1 := int_len (show R64 (-1073741824) by decide)
  have l2 := int_len (show R64 1073741824 by decide)
  refine calls_to tok mix Tryz.func220 rfl rfl rfl ?_
  refine Dr.mk (by decide +kernel) ?_
  refine CallV.to _ (r3_fromInt 1073741824 (by decide)) rfl ?_
  refine CallV.to _ (r3_cmp a (ofQ ((1073741824 : Int) : Rat)) (by omega) (by omega)) rfl ?_
  rw [ofQ_v]
  refine Br.mk (fun h1 => ?_) (fun h1 => ?_)
  · refine CallV.to _ (r3_fromInt (-1073741824) (by decide)) rfl ?_
    refine CallV.to _ (r3_cmp a (ofQ ((-1073741824 : Int) : Rat)) (by omega) (by omega)) rfl ?_
    rw [ofQ_v]
    exact LE_pr ⟨fun h2 => ⟨cmpQ_ge.1 h2, cmpQ_le.1 h1⟩, fun h => cmpQ_ge.2 h.1⟩
  · exact LE_false fun h => h1 (cmpQ_le.2 h.2)

theorem c_rfloor (a : BR) (ha : a.len ≤ 10000000) : CallsG Tryz.prog 222 [.agg (brE a)] [] (i64 (flo a.v)) [] := by
  have l1 := qlen_v a
  have l2 := floor_len a.v
  refine calls_to tok mix Tryz.func222 rfl rfl rfl ?_
  refine CallV.to _ (r3_floor a (by omega)) rfl ?_
  refine CallV.to _ (r2_toint (ofZ a.v.floor) (by rw [ofZ_len]; omega)) rfl ?_
  rw [ofZ_v]
  exact .refl

theorem c_rfine (a : BR) (ha : a.len ≤ 1000000) : CallsG Tryz.prog 224 [.agg (brE a)] [] (i64 (fineQ a.v)) [] := by
  have l1 := int_len (show R64 256 by decide)
  have l2 := half_len
  have l3 := qlen_v a
  have l4 : qlen (Rat.divInt 1 2) ≤ 1 := half_len
  have l5 := qlen_sub a.v (Rat.divInt 1 2)
  have l6 : qlen ((256 : Int) : Rat) ≤ 2 := l1
  have l7 := qlen_mul ((256 : Int) : Rat) (a.v - Rat.divInt 1 2)
  refine calls_to tok mix Tryz.func224 rfl rfl rfl ?_
  refine CallV.to _ (r3_fromints 1 2 (by decide) (by decide) (by decide)) rfl ?_
  refine Dr.mk (by decide +kernel) ?_
  refine CallV.to _ (r3_fromInt 256 (by decide)) rfl ?_
  refine CallV.to _ (r3_sub a (ofQ (Rat.divInt 1 2)) (by omega) (by omega)) rfl ?_
  rw [ofQ_v]
  refine CallV.to _ (r3_mul (ofQ ((256 : Int) : Rat)) (ofQ (a.v - Rat.divInt 1 2)) (by omega) (by rw [ofQ_len]; omega)) rfl ?_
  rw [ofQ_v, ofQ_v]
  refine CallV.to _ (c_rfloor (ofQ (((256 : Int) : Rat) * (a.v - Rat.divInt 1 2))) (by rw [ofQ_len]; omega)) rfl ?_
  rw [ofQ_v]
  exact .refl

def lerp (a b c d f g : Int) : Int := (a * (256 - f) + b * f) * (256 - g) + (c * (256 - f) + d * f) * g
theorem lerp_acc (f g : Int) (V : Nat → Int) : lerp (V 0) (V 1) (V 2) (V 3) f g = accW (wgt f g) V 4 := by
  show _ = 0 + wgt f g 0 * V 0 + wgt f g 1 * V 1 + wgt f g 2 * V 2 + wgt f g 3 * V 3
  unfold lerp wgt
  grind
theorem c_interp (V : Nat → Int) (f g : Int) (hf : 0 ≤ f ∧ f ≤ 255) (hg : 0 ≤ g ∧ g ≤ 255) (hv : ∀ n, R8 (V n)) :
    CallsG Tryz.prog 271 [u8 (V 0), u8 (V 1), u8 (V 2), u8 (V 3), i64 f, i64 g] [] (u8 (bR (accW (wgt f g) V 4))) [] := by
  have key : ∀ a b A : Int, R8 a → 0 ≤ b → b ≤ 256 → 0 ≤ a * b ∧ a * b ≤ 65280 := fun a b A h1 h3 h4 => by
    have h5 := Int.mul_nonneg h1.1 h3
    have h6 : a * b ≤ 255 * b := Int.mul_le_mul_of_nonneg_right h1.2 h3
    omega
  have k0 := key (V 0) (256 - f) 0 (hv 0) (by omega) (by omega)
  have k1 := key (V 1) f 0 (hv 1) (by omega) (by omega)
  have k2 := key (V 2) (256 - f) 0 (hv 2) (by omega) (by omega)
  have k3 := key (V 3) f 0 (hv 3) (by omega) (by omega)
  have key2 : ∀ a b : Int, 0 ≤ a → a ≤ 130560 → 0 ≤ b → b ≤ 256 → 0 ≤ a * b ∧ a * b ≤ 33423360 := fun a b h1 h2 h3 h4 => by
    have h5 := Int.mul_nonneg h1 h3
    have h6 : a * b ≤ 130560 * b := Int.mul_le_mul_of_nonneg_right h2 h3
    omega
  have m0 := key2 (V 0 * (256 - f) + V 1 * f) (256 - g) (by omega) (by omega) (by omega) (by omega)
  have m1 := key2 (V 2 * (256 - f) + V 3 * f) g (by omega) (by omega) (by omega) (by omega)
  have ha := acc4 hf hg hv
  have hr := bR_range ha
  have h0 := hv 0
  have h1 := hv 1
  have h2 := hv 2
  have h3 := hv 3
  unfold R8 at h0 h1 h2 h3
  have el : (V 0 * (256 - f) + V 1 * f) * (256 - g) + (V 2 * (256 - f) + V 3 * f) * g = accW (wgt f g) V 4 := lerp_acc f g V
  refine calls_to tok mix Tryz.func271 rfl rfl rfl ?_
  refine Ar.fit (by omega) ?_
  refine Ar.fit (by omega) ?_
  refine Ar.fit (by omega) ?_
  refine Ar.fit (by omega) ?_
  refine Ar.fit (by omega) ?_
  refine Ar.fit (by omega) ?_
  refine Ar.fit (by omega) ?_
  refine Ar.fit (by omega) ?_
  refine Ar.fit (by omega) ?_
  refine Ar.fit (by omega) ?_
  refine Ar.fit (by omega) ?_
  refine Ar.fit (by omega) ?_
  refine Ar.fit (by omega) ?_
  refine Ar.fit (by omega) ?_
  refine Ar.fit (by omega) ?_
  refine Ar.fit (by omega) ?_
  rw [el]
  refine CallV.to _ (r8_divround (accW (wgt f g) V 4) 65536 (by unfold R64; omega) (by decide)) rfl ?_
  rw [show fitI (rdiv (accW (wgt f g) V 4) 65536) = bR (accW (wgt f g) V 4) by unfold bR at *; unfold fitI; rw [if_pos (by omega)]]
  refine Ar.fit (by omega) ?_
  exact .refl

end Go.Gs
/- Samples of a picture, the other text's: Sample; the law. -/
namespace Go.Gs
open Go.Proofs

set_option maxRecDepth 100000 in
set_option maxHeartbeats 4000000 in
theorem c_bilinear (m : Img) (md u v : Int) (hm : imgOK m) (h8 : ∀ q ∈ m.px, P8 q) (ru : R64 u) (rv : R64 v) :
    CallsG Tryz.prog 223 [.agg (imgE m), i64 md, i64 u, i64 v] []
      (.agg [u8 (bR (sumP (wgt (u % 256) (v % 256)) (px4 m md (u / 256) (v / 256)) 4).r), u8 (bR (sumP (wgt (u % 256) (v % 256)) (px4 m md (u / 256) (v / 256)) 4).g),
        u8 (bR (sumP (wgt (u % 256) (v % 256)) (px4 m md (u / 256) (v / 256)) 4).b), u8 (bR (sumP (wgt (u % 256) (v % 256)) (px4 m md (u / 256) (v / 256)) 4).a)]) [] := by
  refine calls_to tok mix Tryz.func223 rfl rfl rfl ?_
  unfold R64 at ru rv
  refine Ob.mk (by decide) ?_
  refine Ob.mk (by decide) ?_
  have eu : u / 2 ^ 8 = u / 256 := rfl
  have ev : v / 2 ^ 8 = v / 256 := rfl
  refine Ar.fit (by show _ ≤ 256 * (u / 256) ∧ 256 * (u / 256) ≤ _; omega) ?_
  refine Ar.fit (by show _ ≤ u - 256 * (u / 256) ∧ u - 256 * (u / 256) ≤ _; omega) ?_
  refine Ar.fit (by show _ ≤ 256 * (v / 256) ∧ 256 * (v / 256) ≤ _; omega) ?_
  refine Ar.fit (by show _ ≤ v - 256 * (v / 256) ∧ v - 256 * (v / 256) ≤ _; omega) ?_
  have fu : u - 256 * (u / 256) = u % 256 := by omega
  have fv : v - 256 * (v / 256) = v % 256 := by omega
  have hi : -36028797018963968 ≤ u / 256 ∧ u / 256 ≤ 36028797018963967 := by omega
  have hk : -36028797018963968 ≤ v / 256 ∧ v / 256 ≤ 36028797018963967 := by omega
  have hf : 0 ≤ u % 256 ∧ u % 256 ≤ 255 := by omega
  have hg : 0 ≤ v % 256 ∧ v % 256 ≤ 255 := by omega
  rw [eu, ev, fu, fv]
  generalize u / 256 = i at *
  generalize v / 256 = k at *
  generalize u % 256 = f at *
  generalize v % 256 = g at *
  have hQ8 : ∀ n, P8 (px4 m md i k n) := fun n => texelI_P8 h8 _ _ _
  have t0 : CallsG Tryz.prog 221 [.agg (imgE m), i64 i, i64 k, i64 md] [] (.agg (pixE (px4 m md i k 0))) [] := by
    have := c_texel0' m i k md hm (by unfold R64; omega) (by unfold R64; omega)
    rw [show texelI m i k md = px4 m md i k 0 by unfold px4; simp] at this; exact this
  have t1 : CallsG Tryz.prog 221 [.agg (imgE m), i64 (i + 1), i64 k, i64 md] [] (.agg (pixE (px4 m md i k 1))) [] := by
    have := c_texel0' m (i + 1) k md hm (by unfold R64; omega) (by unfold R64; omega)
    rw [show texelI m (i + 1) k md = px4 m md i k 1 by unfold px4; simp] at this; exact this
  have t2 : CallsG Tryz.prog 221 [.agg (imgE m), i64 i, i64 (k + 1), i64 md] [] (.agg (pixE (px4 m md i k 2))) [] := by
    have := c_texel0' m i (k + 1) md hm (by unfold R64; omega) (by unfold R64; omega)
    rw [show texelI m i (k + 1) md = px4 m md i k 2 by unfold px4; simp] at this; exact this
  have t3 : CallsG Tryz.prog 221 [.agg (imgE m), i64 (i + 1), i64 (k + 1), i64 md] [] (.agg (pixE (px4 m md i k 3))) [] := by
    have := c_texel0' m (i + 1) (k + 1) md hm (by unfold R64; omega) (by unfold R64; omega)
    rw [show texelI m (i + 1) (k + 1) md = px4 m md i k 3 by unfold px4; simp] at this; exact this
  generalize px4 m md i k = Q at *
  refine Dr.mk (by decide +kernel) ?_
  refine CallV.to _ t0 rfl ?_
  refine Ar.fit (by omega) ?_
  refine CallV.to _ t1 rfl ?_
  refine Dr.mk (by decide +kernel) ?_
  refine Ar.fit (by omega) ?_
  refine CallV.to _ t2 rfl ?_
  refine Ar.fit (by omega) ?_
  refine Ar.fit (by omega) ?_
  refine CallV.to _ t3 rfl ?_
  refine Dr.mk (by decide +kernel) ?_
  refine CallV.to _ (c_interp (fun n => (Q n).r) f g hf hg (fun n => (hQ8 n).1)) rfl ?_
  refine CallV.to _ (c_interp (fun n => (Q n).g) f g hf hg (fun n => (hQ8 n).2.1)) rfl ?_
  refine CallV.to _ (c_interp (fun n => (Q n).b) f g hf hg (fun n => (hQ8 n).2.2.1)) rfl ?_
  refine CallV.to _ (c_interp (fun n => (Q n).a) f g hf hg (fun n => (hQ8 n).2.2.2)) rfl ?_
  exact .refl

set_option maxRecDepth 100000 in
theorem c_sample' (m : Img) (look md : Int) (a b : BR) (h8 : ∀ q ∈ m.px, P8 q) (ha : a.len ≤ 1000000) (hb : b.len ≤ 1000000) :
    CallsG Tryz.prog 154 [.agg (imgE m), i64 look, i64 md, .agg (brE a), .agg (brE b)] [] (.agg (pixE (smp m look md a.v b.v))) [] := by
  refine calls_to tok mix Tryz.func154 rfl rfl rfl ?_
  have no : ¬ ((look = 1 ∨ look = 2) ∧ imgOK m ∧ nearQ a.v ∧ nearQ b.v) → LE (.agg (pixE zeroP)) (.agg (pixE (smp m look md a.v b.v))) := fun h => by
    unfold smp; rw [if_neg h]; exact .refl
  refine CallV.to _ (c_valid' m) rfl ?_
  refine Br.mk (fun h1 => no fun h => h1 h.2.1) (fun h1 => ?_)
  have h1 := Decidable.not_not.1 h1
  refine CallV.to _ (c_inrange a (by omega)) rfl ?_
  refine Br.mk (fun h2 => no fun h => h2 h.2.2.1) (fun h2 => ?_)
  have h2 := Decidable.not_not.1 h2
  refine CallV.to _ (c_inrange b (by omega)) rfl ?_
  refine Br.mk (fun h3 => no fun h => h3 h.2.2.2) (fun h3 => ?_)
  have h3 := Decidable.not_not.1 h3
  refine Br.mk (fun e => ?_) (fun e => ?_)
  · refine Dr.mk (by decide +kernel) ?_
    refine CallV.to _ (c_rfloor a (by omega)) rfl ?_
    refine CallV.to _ (c_rfloor b (by omega)) rfl ?_
    refine CallV.to _ (c_texel0' m (flo a.v) (flo b.v) md h1 (flo_r64 _) (flo_r64 _)) rfl ?_
    have : smp m look md a.v b.v = texelI m (flo a.v) (flo b.v) md := by
      unfold smp; rw [if_pos ⟨.inl e, h1, h2, h3⟩, if_neg (by omega)]
    rw [this]
    exact .refl
  refine Br.mk (fun e2 => ?_) (fun e2 => ?_)
  · refine Dr.mk (by decide +kernel) ?_
    refine CallV.to _ (c_rfine a ha) rfl ?_
    refine CallV.to _ (c_rfine b hb) rfl ?_
    refine CallV.to _ (c_bilinear m md (fineQ a.v) (fineQ b.v) h1 h8 (flo_r64 _) (flo_r64 _)) rfl ?_
    have : smp m look md a.v b.v = smoothP m md a.v b.v := by
      unfold smp; rw [if_pos ⟨.inr e2, h1, h2, h3⟩, if_pos e2]
    rw [this]
    exact .refl
  · exact no fun h => h.1.elim e e2

theorem texelI_ok {m : Img} (h : imgOK m) (x y md : Int) : pxOK (texelI m x y md) := by
  unfold texelI
  split
  · rw [List.getD_eq_getElem?_getD]
    cases hq : m.px[((wrapI y m.h md).1 * m.w + (wrapI x m.w md).1).toNat]? with
    | none => exact ⟨by decide, by decide, by decide⟩
    | some q => exact h.2.2.2.2 q (List.mem_of_getElem? hq)
  · exact ⟨by decide, by decide, by decide⟩
theorem acc_mono {W V V' : Nat → Int} (hw : ∀ n, 0 ≤ W n) (hv : ∀ n, V n ≤ V' n) : ∀ n, accW W V n ≤ accW W V' n
  | 0 => Int.le_refl _
  | n + 1 => Int.add_le_add (acc_mono hw hv n) (Int.mul_le_mul_of_nonneg_left (hv n) (hw n))
theorem bR_mono {s t : Int} (h0 : 0 ≤ s) (h : s ≤ t) : bR s ≤ bR t := by
  unfold bR rdiv
  rw [if_pos (by omega), if_pos (by omega), show Int.natAbs 65536 = 65536 from rfl]
  omega
theorem smp_ok (m : Img) (look md : Int) (x y : Rat) (h8 : ∀ q ∈ m.px, P8 q) : pxOK (smp m look md x y) := by
  unfold smp
  by_cases h : (look = 1 ∨ look = 2) ∧ imgOK m ∧ nearQ x ∧ nearQ y
  · rw [if_pos h]
    by_cases e : look = 2
    · rw [if_pos e]
      have hf : 0 ≤ fineQ x % 256 ∧ fineQ x % 256 ≤ 255 := by omega
      have hg : 0 ≤ fineQ y % 256 ∧ fineQ y % 256 ≤ 255 := by omega
      have hW := fun n => (wgt_range hf hg n).1
      have hQ := fun n => texelI_ok h.2.1 (fineQ x / 256 + (n : Nat) % 2) (fineQ y / 256 + (n : Nat) / 2) md
      have h8n : ∀ n, P8 (px4 m md (fineQ x / 256) (fineQ y / 256) n) := fun n => texelI_P8 h8 _ _ _
      refine ⟨bR_mono (acc4 hf hg fun n => (h8n n).1).1 (acc_mono hW (fun n => (hQ n).1) 4), bR_mono (acc4 hf hg fun n => (h8n n).2.1).1 (acc_mono hW (fun n => (hQ n).2.1) 4), bR_mono (acc4 hf hg fun n => (h8n n).2.2.1).1 (acc_mono hW (fun n => (hQ n).2.2) 4)⟩
    · rw [if_neg e]; exact texelI_ok h.2.1 _ _ _
  · rw [if_neg h]; exact ⟨by decide, by decide, by decide⟩

end Go.Gs
/- The other text's brush: its error, and its pixels. -/
namespace Go.Gs
open Go.Proofs

def inR (n : Int) : Prop := -4096 ≤ n ∧ n ≤ 4096
instance (n : Int) : Decidable (inR n) := inferInstanceAs (Decidable (_ ∧ _))
def bothA (p : Pnt) (t : AF) : AF := (compR p.t t).1
def backA (p : Pnt) (t : AF) : AF := (invR (bothA p t)).1
/-- The error of a brush. -/
def nbErr (p : Pnt) (t : AF) : Int :=
  if ¬ pntOK p then 16 else if p.k = 1 then 0 else if (compR p.t t).2 ≠ 0 then (compR p.t t).2 else (invR (bothA p t)).2
def midQ (n : Int) : Rat := ((256 * n + 128 : Int) : Rat)
def uQ (p : Pnt) (t : AF) (x y : Int) : Rat := applX (backA p t) (midQ x) (midQ y)
def vQ (p : Pnt) (t : AF) (x y : Int) : Rat := applY (backA p t) (midQ x) (midQ y)
/-- The color at a point of the paint's own plane. -/
def srcP (p : Pnt) (u v : Rat) : Pix :=
  if p.k = 2 then preP (spCol p.st p.sp (linP p.p0 p.p1 u v)) else if p.k = 3 then preP (spCol p.st p.sp (radP p.p0 p.r u v))
  else smp p.im p.sm p.sp (u / ((256 : Int) : Rat)) (v / ((256 : Int) : Rat))
/-- The pixel of a brush that is. -/
def atP (p : Pnt) (t : AF) (x y : Int) : Pix :=
  if ¬ (inR x ∧ inR y) then zeroP else if p.k = 1 then preP p.c else srcP p (uQ p t x y) (vQ p t x y)
def P8p (p : Pnt) : Prop := P8 p.c ∧ (∀ s ∈ p.st, P8 s.c) ∧ ∀ q ∈ p.im.px, P8 q

theorem invR_le {t : AF} (h : (invR t).2 = 0) : (invR t).1.le 8 := by
  unfold invR at *
  split at h
  · exact absurd h (by decide)
  split at h
  · exact absurd h (by decide)
  split at h
  · exact absurd h (by decide)
  · rename_i h1 h2 h3
    rw [if_neg h1, if_neg h2, if_neg h3]
    have := ok_le (t := invA t) (by rw [invA_nrm]; exact Decidable.not_not.1 h3)
    rwa [invA_nrm] at this
theorem compR_le {p t : AF} (h : (compR p t).2 = 0) : (compR p t).1.le 8 := by
  unfold compR at *
  split at h
  · exact absurd h (by decide)
  split at h
  · exact absurd h (by decide)
  split at h
  · exact absurd h (by decide)
  split at h
  · exact absurd h (by decide)
  · rename_i h1 h2 h3 h4
    rw [if_neg h1, if_neg h2, if_neg h3, if_neg h4]
    exact beh_ok_le (Decidable.not_not.1 h4)
theorem compR_cases (p t : AF) : compR p t = (zeroAF, 5) ∨ (compR p t).2 = 0 := by
  unfold compR
  split
  · exact .inl rfl
  split
  · exact .inl rfl
  split
  · exact .inl rfl
  split
  · exact .inl rfl
  · exact .inr rfl
theorem compR_le100 (p t : AF) : (compR p t).1.le 100 := by
  rcases compR_cases p t with h | h
  · rw [h]; exact zeroAF_le _
  · exact (compR_le h).up (by decide)

theorem mid_r64 {n : Int} (h : inR n) : R64 (256 * n + 128) := by unfold inR at h; unfold R64; omega
theorem appl_len {t : AF} (ht : t.le 8) {x y : Rat} (hx : qlen x ≤ 2) (hy : qlen y ≤ 2) : qlen (applX t x y) ≤ 40 ∧ qlen (applY t x y) ≤ 40 := by
  obtain ⟨ha, hb, hc, hd, he, hf⟩ := ht
  have l1 := qlen_v t.a
  have l2 := qlen_v t.b
  have l3 := qlen_v t.c
  have l4 := qlen_v t.d
  have l5 := qlen_v t.e
  have l6 := qlen_v t.f
  have m1 := qlen_mul t.a.v x
  have m2 := qlen_mul t.b.v x
  have m3 := qlen_mul t.c.v y
  have m4 := qlen_mul t.d.v y
  have n1 := qlen_add (t.a.v * x) (t.c.v * y)
  have n2 := qlen_add (t.b.v * x) (t.d.v * y)
  have n3 := qlen_add (t.a.v * x + t.c.v * y) t.e.v
  have n4 := qlen_add (t.b.v * x + t.d.v * y) t.f.v
  unfold applX applY
  omega

theorem c_within (n : Int) : CallsG Tryz.prog 82 [i64 n] [] (pr (inR n)) [] := by
  refine calls_to tok mix Tryz.func82 rfl rfl rfl ?_
  refine Br.mk (fun h1 => ?_) (fun h1 => LE_false (fun h => h1 h.1))
  exact LE_pr ⟨fun h => ⟨h1, h⟩, fun h => h.2⟩
theorem c_within' (n : Int) : CallsG Tryz.prog 144 [i64 n] [] (pr (inR n)) [] := by
  refine calls_to tok mix Tryz.func144 rfl rfl rfl ?_
  refine Br.mk (fun h1 => ?_) (fun h1 => LE_false (fun h => h1 h.1))
  exact LE_pr ⟨fun h => ⟨h1, h⟩, fun h => h.2⟩
theorem c_middle' (n : Int) (h : inR n) : CallsG Tryz.prog 149 [i64 n] [] (.agg (brE (ofQ (midQ n)))) [] := by
  refine calls_to tok mix Tryz.func149 rfl rfl rfl ?_
  have h' := h
  unfold inR at h'
  refine Ar.fit (by omega) ?_
  refine Ar.fit (by omega) ?_
  refine CallV.to _ (r3_fromInt (256 * n + 128) (mid_r64 h)) rfl ?_
  exact .refl

set_option maxRecDepth 100000 in
set_option maxHeartbeats 4000000 in
theorem c_nb' (p : Pnt) (t : AF) (hp : p.t.le 12) (ht : t.le 12) : CallsG Tryz.prog 143 [.agg (pntE p), .agg (afE t)] [] (i64 (nbErr p t)) [] := by
  refine calls_to tok mix Tryz.func143 rfl rfl rfl ?_
  refine CallV.to _ (c_pntvalid' p (hp.up (by decide))) rfl ?_
  refine Br.mk (fun h1 => LE_int (by rw [nbErr, if_pos h1])) (fun h1 => ?_)
  refine Br.mk (fun h2 => LE_int (by rw [nbErr, if_neg h1, if_pos h2])) (fun h2 => ?_)
  refine ⟨AF, afE, [p.t, t], rfl, Ob.mk ⟨rfl, by decide, by decide, by decide, fun x _ => ⟨rfl, rfl, rfl⟩⟩ ?_⟩
  refine CallV.see 2 _ (r12_comp p.t t (hp.up (by decide)) (ht.up (by decide))) rfl rfl rfl ?_
  refine Br.mk (fun h3 => LE_int (by rw [nbErr, if_neg h1, if_neg h2, if_pos h3])) (fun h3 => ?_)
  refine CallV.to _ (r12_invert (compR p.t t).1 (compR_le100 _ _)) rfl ?_
  exact LE_int (by rw [nbErr, if_neg h1, if_neg h2, if_neg h3]; rfl)

theorem nb_ok {p : Pnt} {t : AF} (h : nbErr p t = 0) : pntOK p ∧ (p.k = 1 ∨ (p.k ≠ 1 ∧ (compR p.t t).2 = 0 ∧ (invR (bothA p t)).2 = 0 ∧ (backA p t).le 8)) := by
  unfold nbErr at h
  split at h
  · exact absurd h (by decide)
  rename_i h1
  refine ⟨Decidable.not_not.1 h1, ?_⟩
  split at h
  · exact .inl ‹_›
  rename_i h2
  split at h
  · exact absurd h ‹_›
  rename_i h3
  exact .inr ⟨h2, Decidable.not_not.1 h3, h, invR_le h⟩
theorem mid_len {n : Int} (h : inR n) : qlen (midQ n) ≤ 2 := qlen_i64 (mid_r64 h)
theorem uv_len {p : Pnt} {t : AF} {x y : Int} (h : (backA p t).le 8) (hx : inR x) (hy : inR y) : qlen (uQ p t x y) ≤ 40 ∧ qlen (vQ p t x y) ≤ 40 := appl_len h (mid_len hx) (mid_len hy)
theorem int256 : (((256 : Int) : Rat)) ≠ 0 := int_ne (by decide)
theorem div_len {x : Rat} (h : qlen x ≤ 40) : qlen (x / ((256 : Int) : Rat)) ≤ 42 := by
  have h1 := qlen_div x _ int256
  have h2 := qlen_i64 (n := 256) (by decide)
  omega

set_option maxRecDepth 100000 in
set_option maxHeartbeats 8000000 in
theorem c_at' (p : Pnt) (t : AF) (x y : Int) (hp : p.t.le 12) (ht : t.le 12) (h8 : P8p p) : CallsG Tryz.prog 92 [.agg (pntE p), .agg (afE t), i64 x, i64 y] []
    (.tup [.agg (pixE (if nbErr p t = 0 then atP p t x y else zeroP)), pr (nbErr p t = 0)]) [] := by
  refine calls_to tok mix Tryz.func92 rfl rfl rfl ?_
  refine CallV.to _ (c_nb' p t hp ht) rfl ?_
  refine Br.mk (fun h1 => ?_) (fun h1 => ?_)
  · rw [if_neg h1]
    exact LE_tup2 .refl (LE_false h1)
  have h1 := Decidable.not_not.1 h1
  rw [if_pos h1]
  have fin : ∀ {σ : SV} {q : Pix}, atP p t x y = q → LE σ (.agg (pixE q)) → LE (.tup [σ, bl true]) (.tup [.agg (pixE (atP p t x y)), pr (nbErr p t = 0)]) := fun e h => LE_tup2 (e ▸ h) (LE_true h1)
  obtain ⟨hok, hrest⟩ := nb_ok h1
  refine CallV.to _ (c_within' x) rfl ?_
  refine Br.mk (fun h2 => fin (q := zeroP) (by rw [atP, if_pos (fun k => h2 k.1)]) .refl) (fun h2 => ?_)
  refine CallV.to _ (c_within' y) rfl ?_
  refine Br.mk (fun h3 => fin (q := zeroP) (by rw [atP, if_pos (fun k => h3 k.2)]) .refl) (fun h3 => ?_)
  have h2 := Decidable.not_not.1 h2
  have h3 := Decidable.not_not.1 h3
  have hin : ¬ ¬ (inR x ∧ inR y) := fun k => k ⟨h2, h3⟩
  refine Br.mk (fun k1 => ?_) (fun k1 => ?_)
  · refine CallV.to _ (c_premul' p.c h8.1) rfl ?_
    exact fin (q := preP p.c) (by rw [atP, if_neg hin, if_pos k1]) .refl
  obtain ⟨_, hc, hi, hb⟩ := hrest.resolve_left k1
  obtain ⟨lu, lv⟩ := uv_len (x := x) (y := y) hb h2 h3
  refine ⟨AF, afE, [p.t, t], rfl, Ob.mk ⟨rfl, by decide, by decide, by decide, fun x _ => ⟨rfl, rfl, rfl⟩⟩ ?_⟩
  refine CallV.see 3 _ (r12_comp p.t t (hp.up (by decide)) (ht.up (by decide))) rfl rfl rfl ?_
  refine CallV.to _ (r12_invert (compR p.t t).1 (compR_le100 _ _)) rfl ?_
  refine Dr.mk (by decide +kernel) ?_
  refine CallV.to _ (c_middle' x h2) rfl ?_
  refine CallV.to _ (c_middle' y h3) rfl ?_
  have hx := r12_exact (backA p t) (ofQ (midQ x)) (ofQ (midQ y)) (hb.up (by decide)) (by rw [ofQ_len]; have := mid_len h2; omega) (by rw [ofQ_len]; have := mid_len h3; omega)
  rw [ofQ_v, ofQ_v] at hx
  refine CallV.to _ hx rfl ?_
  refine Br.mk (fun k2 => ?_) (fun k2 => ?_)
  · refine Dr.mk (by decide +kernel) ?_
    refine CallV.to _ (c_linpos' p.p0 p.p1 (uQ p t x y) (vQ p t x y) (by omega) (by omega)) rfl ?_
    refine CallV.to _ (c_spcol' p.st p.sp (linP p.p0 p.p1 (uQ p t x y) (vQ p t x y)) h8.2.1) rfl ?_
    refine CallV.to _ (c_premul' (spCol p.st p.sp (linP p.p0 p.p1 (uQ p t x y) (vQ p t x y))) (spCol_8 h8.2.1)) rfl ?_
    exact fin (by rw [atP, if_neg hin, if_neg k1, srcP, if_pos k2]) .refl
  refine Br.mk (fun k3 => ?_) (fun k3 => ?_)
  · refine Dr.mk (by decide +kernel) ?_
    refine CallV.to _ (c_radpos' p.p0 p.r (uQ p t x y) (vQ p t x y) (by omega) (by omega)) rfl ?_
    refine CallV.to _ (c_spcol' p.st p.sp (radP p.p0 p.r (uQ p t x y) (vQ p t x y)) h8.2.1) rfl ?_
    refine CallV.to _ (c_premul' (spCol p.st p.sp (radP p.p0 p.r (uQ p t x y) (vQ p t x y))) (spCol_8 h8.2.1)) rfl ?_
    exact fin (by rw [atP, if_neg hin, if_neg k1, srcP, if_neg k2, if_pos k3]) .refl
  have l256 := qlen_i64 (n := 256) (by decide)
  refine Dr.mk (by decide +kernel) ?_
  refine CallV.to _ (r3_fromInt 256 (by decide)) rfl ?_
  refine CallV.to _ (r3_quoQ (uQ p t x y) ((256 : Int) : Rat) (by omega) (by omega) int256) rfl ?_
  refine Dr.mk (by decide +kernel) ?_
  refine CallV.to _ (r3_fromInt 256 (by decide)) rfl ?_
  refine CallV.to _ (r3_quoQ (vQ p t x y) ((256 : Int) : Rat) (by omega) (by omega) int256) rfl ?_
  have hs := c_sample' p.im p.sm p.sp (ofQ (uQ p t x y / ((256 : Int) : Rat))) (ofQ (vQ p t x y / ((256 : Int) : Rat))) h8.2.2 (by rw [ofQ_len]; have := div_len lu; omega) (by rw [ofQ_len]; have := div_len lv; omega)
  rw [ofQ_v, ofQ_v] at hs
  refine CallV.to _ hs rfl ?_
  exact fin (by rw [atP, if_neg hin, if_neg k1, srcP, if_neg k2, if_neg k3]) .refl

end Go.Gs
/- Moved transforms move the pixels: plain. -/
namespace Go.Gs
open Go.Proofs

theorem inv_back {t : AF} (h : detQ t ≠ 0) (x y : Rat) :
    applX (invA t) (applX t x y) (applY t x y) = x ∧ applY (invA t) (applX t x y) (applY t x y) = y ∧
    applX t (applX (invA t) x y) (applY (invA t) x y) = x ∧ applY t (applX (invA t) x y) (applY (invA t) x y) = y := by
  unfold invA inv0 applX applY
  simp only [ofQ_v, zBR_v]
  have hD : detQ t = t.a.v * t.d.v - t.b.v * t.c.v := rfl
  generalize t.a.v = a at *
  generalize t.b.v = b at *
  generalize t.c.v = c at *
  generalize t.d.v = d at *
  generalize t.e.v = e at *
  generalize t.f.v = f at *
  generalize detQ t = D at *
  have hk : D * D⁻¹ = 1 := Rat.mul_inv_cancel _ h
  simp only [Rat.div_def]
  generalize D⁻¹ = k at *
  subst hD
  refine ⟨?_, ?_, ?_, ?_⟩ <;> grind

theorem beh_apply (t u : AF) (x y : Rat) : applX (beh t u) x y = applX u (applX t x y) (applY t x y) ∧ applY (beh t u) x y = applY u (applX t x y) (applY t x y) := by
  unfold beh afQ applX applY
  simp only [ofQ_v]
  constructor <;> grind

theorem idA_apply (x y : Rat) : applX idA x y = x ∧ applY idA x y = y := by
  unfold idA afQ applX applY
  simp only [ofQ_v]
  constructor
  · have h0 : ((0 : Int) : Rat) = 0 := rfl
    have h1 : ((1 : Int) : Rat) = 1 := rfl
    rw [h0, h1]; grind
  · have h0 : ((0 : Int) : Rat) = 0 := rfl
    have h1 : ((1 : Int) : Rat) = 1 := rfl
    rw [h0, h1]; grind

def trA (x y : Rat) : AF := afQ ((1 : Int) : Rat) ((0 : Int) : Rat) ((0 : Int) : Rat) ((1 : Int) : Rat) x y
theorem trA_apply (p q x y : Rat) : applX (trA p q) x y = x + p ∧ applY (trA p q) x y = y + q := by
  unfold trA afQ applX applY
  simp only [ofQ_v]
  have h0 : ((0 : Int) : Rat) = 0 := rfl
  have h1 : ((1 : Int) : Rat) = 1 := rfl
  rw [h0, h1]
  constructor <;> grind

theorem invR_ok {t : AF} (h : (invR t).2 = 0) : detQ t ≠ 0 ∧ (invR t).1 = invA t := by
  unfold invR at *
  split at h
  · exact absurd h (by decide)
  split at h
  · exact absurd h (by decide)
  split at h
  · exact absurd h (by decide)
  · rename_i h1 h2 h3
    rw [if_neg h1, if_neg h2, if_neg h3]
    exact ⟨h2, rfl⟩
theorem compR_eq {p t : AF} (h : (compR p t).2 = 0) : (compR p t).1 = beh (beh idA p) t := by
  unfold compR at *
  split at h
  · exact absurd h (by decide)
  split at h
  · exact absurd h (by decide)
  split at h
  · exact absurd h (by decide)
  split at h
  · exact absurd h (by decide)
  · rename_i h1 h2 h3 h4
    rw [if_neg h1, if_neg h2, if_neg h3, if_neg h4]

theorem mid_add (n d : Int) : midQ (n + d) = midQ n + ((256 * d : Int) : Rat) := by
  unfold midQ
  rw [← Rat.intCast_add]
  congr 1
  omega

/-- Behind a translation by whole pixels the pixels move. -/
theorem at_moved {p : Pnt} {t : AF} {x y dx dy : Int} (hu : (compR t (trA ((256 * dx : Int) : Rat) ((256 * dy : Int) : Rat))).2 = 0) (h1 : nbErr p t = 0) (h2 : nbErr p (compR t (trA ((256 * dx : Int) : Rat) ((256 * dy : Int) : Rat))).1 = 0)
    (i1 : inR x ∧ inR y) (i2 : inR (x + dx) ∧ inR (y + dy)) : atP p t x y = atP p (compR t (trA ((256 * dx : Int) : Rat) ((256 * dy : Int) : Rat))).1 (x + dx) (y + dy) := by
  have ein : ∀ t x y, inR x ∧ inR y → atP p t x y = (if p.k = 1 then preP p.c else srcP p (uQ p t x y) (vQ p t x y)) := fun t x y h => if_neg (fun k => k h)
  rw [ein _ _ _ i1, ein _ _ _ i2]
  by_cases hk : p.k = 1
  · rw [if_pos hk, if_pos hk]
  rw [if_neg hk, if_neg hk]
  obtain ⟨_, c1, v1, _⟩ := (nb_ok h1).2.resolve_left hk
  obtain ⟨_, c2, v2, _⟩ := (nb_ok h2).2.resolve_left hk
  obtain ⟨d1, e1⟩ := invR_ok v1
  obtain ⟨d2, e2⟩ := invR_ok v2
  have key : uQ p t x y = uQ p (compR t (trA ((256 * dx : Int) : Rat) ((256 * dy : Int) : Rat))).1 (x + dx) (y + dy) ∧ vQ p t x y = vQ p (compR t (trA ((256 * dx : Int) : Rat) ((256 * dy : Int) : Rat))).1 (x + dx) (y + dy) := by
    unfold uQ vQ backA
    rw [e1, e2]
    have b1 : bothA p t = beh (beh idA p.t) t := compR_eq c1
    have b2 : bothA p (compR t (trA ((256 * dx : Int) : Rat) ((256 * dy : Int) : Rat))).1 = beh (beh idA p.t) (compR t (trA ((256 * dx : Int) : Rat) ((256 * dy : Int) : Rat))).1 := compR_eq c2
    rw [compR_eq hu] at b2
    rw [compR_eq hu] at d2 ⊢
    rw [mid_add, mid_add]
    generalize bothA p (beh (beh idA t) (trA ((256 * dx : Int) : Rat) ((256 * dy : Int) : Rat))) = M2 at *
    generalize bothA p t = M1 at *
    obtain ⟨_, _, g3, g4⟩ := inv_back d1 (midQ x) (midQ y)
    generalize applX (invA M1) (midQ x) (midQ y) = z1 at *
    generalize applY (invA M1) (midQ x) (midQ y) = z2 at *
    obtain ⟨g1, g2, _, _⟩ := inv_back d2 z1 z2
    have fwd : applX M2 z1 z2 = midQ x + ((256 * dx : Int) : Rat) ∧ applY M2 z1 z2 = midQ y + ((256 * dy : Int) : Rat) := by
      have bx : ∀ t u x y, applX (beh t u) x y = applX u (applX t x y) (applY t x y) := fun t u x y => (beh_apply t u x y).1
      have by' : ∀ t u x y, applY (beh t u) x y = applY u (applX t x y) (applY t x y) := fun t u x y => (beh_apply t u x y).2
      have ix : ∀ x y, applX idA x y = x := fun x y => (idA_apply x y).1
      have iy : ∀ x y, applY idA x y = y := fun x y => (idA_apply x y).2
      have tx : ∀ p q x y, applX (trA p q) x y = x + p := fun p q x y => (trA_apply p q x y).1
      have ty : ∀ p q x y, applY (trA p q) x y = y + q := fun p q x y => (trA_apply p q x y).2
      subst b1 b2
      simp only [bx, by', ix, iy] at g3 g4
      simp only [bx, by', ix, iy, tx, ty, g3, g4]
      exact ⟨trivial, trivial⟩
    rw [fwd.1, fwd.2] at g1 g2
    exact ⟨g1.symm, g2.symm⟩
  rw [key.1, key.2]

end Go.Gs
/- The law of repeated pictures. -/
namespace Go.Gs
open Go.Proofs

theorem wrap2 {i n : Int} (h : 1 ≤ n) : wrapI i n 2 = (i % n, true) := by
  unfold wrapI
  rw [if_neg (by omega)]
  by_cases e : 0 ≤ i ∧ i < n
  · rw [if_pos e, Int.emod_eq_of_lt e.1 e.2]
  · rw [if_neg e, if_neg (by decide), if_pos rfl]
theorem wrap3 {i n : Int} (h : 1 ≤ n) : wrapI i n 3 = ((if i / n % 2 = 1 then n - 1 - i % n else i % n), true) := by
  unfold wrapI
  rw [if_neg (by omega)]
  by_cases e : 0 ≤ i ∧ i < n
  · rw [if_pos e, Int.emod_eq_of_lt e.1 e.2, Int.ediv_eq_zero_of_lt e.1 e.2, if_neg (by decide)]
  · rw [if_neg e, if_neg (by decide), if_neg (by decide), if_pos rfl]
theorem wrap2_add {i n : Int} (h : 1 ≤ n) : wrapI (i + n) n 2 = wrapI i n 2 := by
  rw [wrap2 h, wrap2 h, Int.add_emod_right]
theorem wrap3_add {i n : Int} (h : 1 ≤ n) : wrapI (i + 2 * n) n 3 = wrapI i n 3 := by
  rw [wrap3 h, wrap3 h, Int.add_mul_emod_self_right, Int.add_mul_ediv_right _ _ (by omega : n ≠ 0)]
  have : (i / n + 2) % 2 = i / n % 2 := by omega
  rw [this]
theorem wrap3_sub {i n : Int} (h : 1 ≤ n) : wrapI (i - 2 * n) n 3 = wrapI i n 3 := by
  have := wrap3_add (i := i - 2 * n) h
  rw [Int.sub_add_cancel] at this
  exact this.symm
theorem texel2_add {m : Img} (hm : imgOK m) (x y : Int) : texelI m (x + m.w) (y + m.h) 2 = texelI m x y 2 := by
  unfold texelI
  rw [wrap2_add hm.1.1, wrap2_add hm.2.1.1]
theorem texel3_add {m : Img} (hm : imgOK m) (x y : Int) : texelI m (x - 2 * m.w) (y + 2 * m.h) 3 = texelI m x y 3 := by
  unfold texelI
  rw [wrap3_sub hm.1.1, wrap3_add hm.2.1.1]

theorem near_floor {x : Rat} (h : nearQ x) : flo x = x.floor ∧ -1073741824 ≤ x.floor ∧ x.floor ≤ 1073741824 := by
  have h1 : -1073741824 ≤ x.floor := Rat.le_floor_iff.2 h.1
  have h2 : x.floor ≤ 1073741824 := by
    have := Rat.floor_monotone h.2
    rwa [Rat.floor_intCast] at this
  exact ⟨by unfold flo fitI; rw [if_pos (by omega)], h1, h2⟩
theorem flo_add {x : Rat} {n : Int} (h : nearQ x) (hn : -100000 ≤ n ∧ n ≤ 100000) : flo (x + (n : Rat)) = flo x + n := by
  obtain ⟨h1, h2, h3⟩ := near_floor h
  rw [h1]
  unfold flo
  rw [Rat.floor_add_intCast]
  unfold fitI
  rw [if_pos (by omega)]
theorem fine_eq (x : Rat) (n : Int) : ((256 : Int) : Rat) * (x + (n : Rat) - Rat.divInt 1 2) = ((256 : Int) : Rat) * (x - Rat.divInt 1 2) + ((256 * n : Int) : Rat) := by
  rw [Rat.intCast_mul]; grind
theorem fine_range {x : Rat} (h : nearQ x) : -274877906944 - 128 ≤ (((256 : Int) : Rat) * (x - Rat.divInt 1 2)).floor ∧ (((256 : Int) : Rat) * (x - Rat.divInt 1 2)).floor ≤ 274877906944 := by
  have e : ((256 : Int) : Rat) * (x - Rat.divInt 1 2) = ((256 : Int) : Rat) * x + ((-128 : Int) : Rat) := by
    have : Rat.divInt 1 2 * 256 = 128 := by decide +kernel
    grind
  rw [e, Rat.floor_add_intCast]
  have h1 : -274877906944 ≤ (((256 : Int) : Rat) * x).floor := Rat.le_floor_iff.2 (by
    have := h.1
    have k : ((-274877906944 : Int) : Rat) = ((256 : Int) : Rat) * ((-1073741824 : Int) : Rat) := by rw [← Rat.intCast_mul]; rfl
    rw [k]
    exact Rat.mul_le_mul_of_nonneg_left this (by decide +kernel))
  have h2 : (((256 : Int) : Rat) * x).floor ≤ 274877906944 := by
    have k : ((256 : Int) : Rat) * x ≤ ((274877906944 : Int) : Rat) := by
      have := h.2
      have k : ((274877906944 : Int) : Rat) = ((256 : Int) : Rat) * ((1073741824 : Int) : Rat) := by rw [← Rat.intCast_mul]; rfl
      rw [k]
      exact Rat.mul_le_mul_of_nonneg_left this (by decide +kernel)
    have := Rat.floor_monotone k
    rwa [Rat.floor_intCast] at this
  omega
theorem fine_add {x : Rat} {n : Int} (h : nearQ x) (hn : -100000 ≤ n ∧ n ≤ 100000) : fineQ (x + (n : Rat)) = fineQ x + 256 * n := by
  have hr := fine_range h
  unfold fineQ flo
  rw [fine_eq, Rat.floor_add_intCast]
  unfold fitI
  rw [if_pos (by omega), if_pos (by omega)]

/-- The place lies well within the range. -/
def farQ (x : Rat) : Prop := x ≤ ((1048576 : Int) : Rat) ∧ -x ≤ ((1048576 : Int) : Rat)
theorem far_near {x : Rat} (h : farQ x) {n : Int} (hn : -100000 ≤ n ∧ n ≤ 100000) : nearQ (x + (n : Rat)) := by
  have h1 := h.1
  have h2 := h.2
  have k1 : ((-100000 : Int) : Rat) ≤ (n : Rat) := Rat.intCast_le_intCast.2 hn.1
  have k2 : (n : Rat) ≤ ((100000 : Int) : Rat) := Rat.intCast_le_intCast.2 hn.2
  have c1 : ((-1073741824 : Int) : Rat) ≤ ((-1148576 : Int) : Rat) := by decide +kernel
  have c2 : ((1148576 : Int) : Rat) ≤ ((1073741824 : Int) : Rat) := by decide +kernel
  have d1 : ((-1148576 : Int) : Rat) = -((1048576 : Int) : Rat) + ((-100000 : Int) : Rat) := by decide +kernel
  have d2 : ((1148576 : Int) : Rat) = ((1048576 : Int) : Rat) + ((100000 : Int) : Rat) := by decide +kernel
  constructor
  · grind
  · grind
theorem far_near0 {x : Rat} (h : farQ x) : nearQ x := by
  have := far_near h (n := 0) (by decide)
  rwa [show ((0 : Int) : Rat) = 0 from rfl, Rat.add_zero] at this

theorem smp_in {m : Img} {look md : Int} {x y : Rat} (h : look = 1 ∨ look = 2) (hm : imgOK m) (hx : nearQ x) (hy : nearQ y) : smp m look md x y = if look = 2 then smoothP m md x y else texelI m (flo x) (flo y) md := if_pos ⟨h, hm, hx, hy⟩
theorem smp_off {m : Img} {look md : Int} {x y : Rat} (h : ¬ (look = 1 ∨ look = 2)) : smp m look md x y = zeroP := if_neg fun k => h k.1
theorem smp_repeat {m : Img} (hm : imgOK m) (look : Int) {x y : Rat} (hx : farQ x) (hy : farQ y) : smp m look 2 (x + (m.w : Rat)) (y + (m.h : Rat)) = smp m look 2 x y := by
  have rw' : -100000 ≤ m.w ∧ m.w ≤ 100000 := by have := hm.1; omega
  have rh : -100000 ≤ m.h ∧ m.h ≤ 100000 := by have := hm.2.1; omega
  have nx := far_near0 hx
  have ny := far_near0 hy
  by_cases h : look = 1 ∨ look = 2
  · rw [smp_in h hm (far_near hx rw') (far_near hy rh), smp_in h hm nx ny]
    by_cases e : look = 2
    · rw [if_pos e, if_pos e]
      unfold smoothP
      rw [fine_add nx rw', fine_add ny rh]
      have e1 : (fineQ x + 256 * m.w) % 256 = fineQ x % 256 := by omega
      have e2 : (fineQ y + 256 * m.h) % 256 = fineQ y % 256 := by omega
      have e3 : (fineQ x + 256 * m.w) / 256 = fineQ x / 256 + m.w := by omega
      have e4 : (fineQ y + 256 * m.h) / 256 = fineQ y / 256 + m.h := by omega
      rw [e1, e2, e3, e4]
      have : px4 m 2 (fineQ x / 256 + m.w) (fineQ y / 256 + m.h) = px4 m 2 (fineQ x / 256) (fineQ y / 256) := by
        funext n
        unfold px4
        rw [Int.add_right_comm, Int.add_right_comm (fineQ y / 256), texel2_add hm]
      rw [this]
    · rw [if_neg e, if_neg e, flo_add nx rw', flo_add ny rh, texel2_add hm]
  · rw [smp_off h, smp_off h]

theorem smp_reflect {m : Img} (hm : imgOK m) (look : Int) {x y : Rat} (hx : farQ x) (hy : farQ y) :
    smp m look 3 (x - ((2 * m.w : Int) : Rat)) (y + ((2 * m.h : Int) : Rat)) = smp m look 3 x y := by
  have e0 : x - ((2 * m.w : Int) : Rat) = x + ((-(2 * m.w) : Int) : Rat) := by rw [Rat.intCast_neg, Rat.sub_eq_add_neg]
  rw [e0]
  have rw' : -100000 ≤ -(2 * m.w) ∧ -(2 * m.w) ≤ 100000 := by have := hm.1; omega
  have rh : -100000 ≤ 2 * m.h ∧ 2 * m.h ≤ 100000 := by have := hm.2.1; omega
  have nx := far_near0 hx
  have ny := far_near0 hy
  by_cases h : look = 1 ∨ look = 2
  · rw [smp_in h hm (far_near hx rw') (far_near hy rh), smp_in h hm nx ny]
    by_cases e : look = 2
    · rw [if_pos e, if_pos e]
      unfold smoothP
      rw [fine_add nx rw', fine_add ny rh]
      have e1 : (fineQ x + 256 * -(2 * m.w)) % 256 = fineQ x % 256 := by omega
      have e2 : (fineQ y + 256 * (2 * m.h)) % 256 = fineQ y % 256 := by omega
      have e3 : (fineQ x + 256 * -(2 * m.w)) / 256 = fineQ x / 256 - 2 * m.w := by omega
      have e4 : (fineQ y + 256 * (2 * m.h)) / 256 = fineQ y / 256 + 2 * m.h := by omega
      rw [e1, e2, e3, e4]
      have : px4 m 3 (fineQ x / 256 - 2 * m.w) (fineQ y / 256 + 2 * m.h) = px4 m 3 (fineQ x / 256) (fineQ y / 256) := by
        funext n
        unfold px4
        rw [show fineQ x / 256 - 2 * m.w + (n : Int) % 2 = fineQ x / 256 + (n : Int) % 2 - 2 * m.w by omega, Int.add_right_comm (fineQ y / 256), texel3_add hm]
      rw [this]
    · rw [if_neg e, if_neg e, flo_add nx rw', flo_add ny rh, ← Int.sub_eq_add_neg, texel3_add hm]
  · rw [smp_off h, smp_off h]

theorem half_near {i : Int} (h : -100000 < i ∧ i < 100000) : nearQ ((i : Rat) + Rat.divInt 1 2) := by
  have k1 : ((-100000 : Int) : Rat) ≤ (i : Rat) := Rat.intCast_le_intCast.2 (by omega)
  have k2 : (i : Rat) ≤ ((100000 : Int) : Rat) := Rat.intCast_le_intCast.2 (by omega)
  have c1 : ((-1073741824 : Int) : Rat) ≤ ((-100000 : Int) : Rat) := by decide +kernel
  have c2 : ((100000 : Int) : Rat) + Rat.divInt 1 2 ≤ ((1073741824 : Int) : Rat) := by decide +kernel
  have c3 : (0 : Rat) ≤ Rat.divInt 1 2 := by decide +kernel
  constructor
  · grind
  · grind
theorem half_floor (i : Int) : ((i : Rat) + Rat.divInt 1 2).floor = i := by
  rw [Rat.add_comm, Rat.floor_add_intCast, show (Rat.divInt 1 2).floor = 0 by decide +kernel, Int.zero_add]
theorem half_fine {i : Int} (h : -100000 < i ∧ i < 100000) : fineQ ((i : Rat) + Rat.divInt 1 2) = 256 * i := by
  unfold fineQ flo
  rw [Rat.add_sub_cancel, ← Rat.intCast_mul, Rat.floor_intCast]
  unfold fitI
  rw [if_pos (by omega)]
theorem smp_half {m : Img} (hm : imgOK m) (h8 : ∀ q ∈ m.px, P8 q) {look : Int} (hl : look = 1 ∨ look = 2) (md : Int) {i k : Int} (hi : -100000 < i ∧ i < 100000) (hk : -100000 < k ∧ k < 100000) :
    smp m look md ((i : Rat) + Rat.divInt 1 2) ((k : Rat) + Rat.divInt 1 2) = texelI m i k md := by
  unfold smp
  rw [if_pos ⟨hl, hm, half_near hi, half_near hk⟩]
  by_cases e : look = 2
  · rw [if_pos e]
    unfold smoothP
    rw [half_fine hi, half_fine hk]
    have e1 : 256 * i % 256 = 0 := by omega
    have e2 : 256 * k % 256 = 0 := by omega
    have e3 : 256 * i / 256 = i := by omega
    have e4 : 256 * k / 256 = k := by omega
    rw [e1, e2, e3, e4]
    have e5 : texelI m i k md = px4 m md i k 0 := by unfold px4; simp
    have h8' := texelI_P8 h8 i k md
    rw [e5] at h8' ⊢
    generalize px4 m md i k = Q at *
    have one : ∀ V : Nat → Int, R8 (V 0) → bR (accW (wgt 0 0) V 4) = V 0 := fun V hV => by
      have ea : accW (wgt 0 0) V 4 = 65536 * V 0 := by
        show 0 + (256 - 0) * (256 - 0) * V 0 + 0 * (256 - 0) * V 1 + (256 - 0) * 0 * V 2 + 0 * 0 * V 3 = _
        omega
      rw [ea]
      unfold R8 at hV
      unfold bR rdiv
      rw [if_pos (by omega), show Int.natAbs 65536 = 65536 from rfl]
      omega
    dsimp only [sumP]
    rw [one _ h8'.1, one _ h8'.2.1, one _ h8'.2.2.1, one _ h8'.2.2.2]
  · rw [if_neg e]
    have a1 := near_floor (half_near hi)
    have a2 := near_floor (half_near hk)
    rw [a1.1, a2.1, half_floor, half_floor]

end Go.Gs
