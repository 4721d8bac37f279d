/- Paints: those that are the same; what is left without the fields of the kind. -/
import Derived.Test.YtoggmkhegbfjfaaGreatMAQ
import Derived.Test.YtoggmkhegbfjfaaGreatMAN
import Derived.Test.YtoggmkhegbfjfaaGreatMAP
namespace Go.Gs
open Go.Proofs

structure Pnt where
  k : Int
  c : Pix
  p0 : Pt
  p1 : Pt
  r : Int
  st : List Stop
  sp : Int
  im : Img
  sm : Int
  t : AF
def pntE (p : Pnt) : List SV :=
  i64 p.k :: u8 p.c.r :: u8 p.c.g :: u8 p.c.b :: u8 p.c.a :: i64 p.p0.x :: i64 p.p0.y :: i64 p.p1.x :: i64 p.p1.y :: i64 p.r :: .sl stopE p.st :: i64 p.sp :: i64 p.im.w :: i64 p.im.h :: .sl pixE p.im.px :: i64 p.sm :: afE p.t
def Pnt.same (p q : Pnt) : Prop := p.k = q.k ∧ p.c = q.c ∧ p.p0 = q.p0 ∧ p.p1 = q.p1 ∧ p.r = q.r ∧ p.st = q.st ∧ p.sp = q.sp ∧ p.im = q.im ∧ p.sm = q.sm ∧ p.t.same q.t
instance (p q : Pnt) : Decidable (p.same q) := inferInstanceAs (Decidable (_ ∧ _))

set_option maxRecDepth 100000 in
set_option maxHeartbeats 4000000 in
theorem c_pntequal (p q : Pnt) (hp : p.t.le 10000000) (hq : q.t.le 10000000) : CallsG Tryz.prog 118 [.agg (pntE p), .agg (pntE q)] [] (pr (p.same q)) [] := by
  refine calls_to tok mix Tryz.func118 rfl rfl rfl ?_
  refine Br.mk (fun h1 => ?_) (fun h1 => LE_false (fun e => h1 e.1))
  refine Br.mk (fun h2 => ?_) (fun h2 => LE_false (fun e => h2 (pix_eq.2 e.2.1)))
  refine Br.mk (fun h3 => ?_) (fun h3 => LE_false (fun e => h3 (pt_eq.2 e.2.2.1)))
  refine Br.mk (fun h4 => ?_) (fun h4 => LE_false (fun e => h4 (pt_eq.2 e.2.2.2.1)))
  refine Br.mk (fun h5 => ?_) (fun h5 => LE_false (fun e => h5 e.2.2.2.2.1))
  refine Br.mk (fun h6 => ?_) (fun h6 => LE_false (fun e => h6 e.2.2.2.2.2.2.1))
  refine Br.mk (fun h7 => ?_) (fun h7 => LE_false (fun e => h7 e.2.2.2.2.2.2.2.2.1))
  refine CallV.to _ (c_stseq p.st q.st) rfl ?_
  refine Br.mk (fun h8 => ?_) (fun h8 => LE_false (fun e => h8 e.2.2.2.2.2.1))
  refine CallV.to _ (c_equal p.im q.im) rfl ?_
  refine Br.mk (fun h9 => ?_) (fun h9 => LE_false (fun e => h9 e.2.2.2.2.2.2.2.1))
  refine CallV.to _ (a_equal p.t q.t hp hq) rfl ?_
  exact LE_pr ⟨fun h => ⟨h1, pix_eq.1 h2, pt_eq.1 h3, pt_eq.1 h4, h5, h8, h6, h9, h7, h⟩, fun e => e.2.2.2.2.2.2.2.2.2⟩

theorem LE_zt : LEs zero24 (afE zeroAF) := by
  have h0 : LEs z4 (brE zBR) := LE_zBR
  have h : LEs (z4 ++ (z4 ++ (z4 ++ (z4 ++ (z4 ++ z4))))) (afE zeroAF) := LEs.append h0 (LEs.append h0 (LEs.append h0 (LEs.append h0 (LEs.append h0 h0))))
  exact h

/-- A paint of a kind, all else zero. -/
def kindP (k : Int) : Pnt := ⟨k, zeroP, zp, zp, 0, [], 0, ⟨0, 0, []⟩, 0, zeroAF⟩
def nil1 : SV := .val (.slice none 0 0)
theorem LE_kindP (k : Int) : LE (.agg (i64 k :: u8 0 :: u8 0 :: u8 0 :: u8 0 :: i64 0 :: i64 0 :: i64 0 :: i64 0 :: i64 0 :: nil1 :: i64 0 :: i64 0 :: i64 0 :: nil1 :: i64 0 :: zero24)) (.agg (pntE (kindP k))) := by
  have h := LE_zt
  exact LE_agg (.cons .refl (.cons .refl (.cons .refl (.cons .refl (.cons .refl (.cons .refl (.cons .refl (.cons .refl (.cons .refl (.cons .refl (.cons LE_nil0 (.cons .refl (.cons .refl (.cons .refl (.cons LE_nil0 (.cons .refl h))))))))))))))))

/-- Without the fields of the kind. -/
def bareP (p : Pnt) : Pnt :=
  if p.k = 1 then { p with c := zeroP, t := zeroAF } else if p.k = 2 then { p with p0 := zp, p1 := zp, st := [], sp := 0, t := zeroAF }
  else if p.k = 3 then { p with p0 := zp, r := 0, st := [], sp := 0, t := zeroAF } else if p.k = 4 then { p with im := ⟨0, 0, []⟩, sp := 0, sm := 0, t := zeroAF } else { p with t := zeroAF }

set_option maxRecDepth 100000 in
set_option maxHeartbeats 4000000 in
theorem c_without (p : Pnt) : CallsG Tryz.prog 119 [.agg (pntE p)] [] (.agg (pntE (bareP p))) [] := by
  have fin : ∀ {σ : SV} {q : Pnt}, bareP p = q → LE σ (.agg (pntE q)) → LE σ (.agg (pntE (bareP p))) := fun e h => e ▸ h
  refine calls_to tok mix Tryz.func119 rfl rfl rfl ?_
  refine Br.mk (fun h1 => ?_) (fun h1 => ?_)
  · refine fin (q := { p with c := zeroP, t := zeroAF }) (by rw [bareP, if_pos h1]) ?_
    exact LE_agg (.cons .refl (.cons .refl (.cons .refl (.cons .refl (.cons .refl (.cons .refl (.cons .refl (.cons .refl (.cons .refl (.cons .refl (.cons .refl (.cons .refl (.cons .refl (.cons .refl (.cons .refl (.cons .refl LE_zt))))))))))))))))
  refine Br.mk (fun h2 => ?_) (fun h2 => ?_)
  · refine fin (q := { p with p0 := zp, p1 := zp, st := [], sp := 0, t := zeroAF }) (by rw [bareP, if_neg h1, if_pos h2]) ?_
    exact LE_agg (.cons .refl (.cons .refl (.cons .refl (.cons .refl (.cons .refl (.cons .refl (.cons .refl (.cons .refl (.cons .refl (.cons .refl (.cons LE_nil0 (.cons .refl (.cons .refl (.cons .refl (.cons .refl (.cons .refl LE_zt))))))))))))))))
  refine Br.mk (fun h3 => ?_) (fun h3 => ?_)
  · refine fin (q := { p with p0 := zp, r := 0, st := [], sp := 0, t := zeroAF }) (by rw [bareP, if_neg h1, if_neg h2, if_pos h3]) ?_
    exact LE_agg (.cons .refl (.cons .refl (.cons .refl (.cons .refl (.cons .refl (.cons .refl (.cons .refl (.cons .refl (.cons .refl (.cons .refl (.cons LE_nil0 (.cons .refl (.cons .refl (.cons .refl (.cons .refl (.cons .refl LE_zt))))))))))))))))
  refine Br.mk (fun h4 => ?_) (fun h4 => ?_)
  · refine fin (q := { p with im := ⟨0, 0, []⟩, sp := 0, sm := 0, t := zeroAF }) (by rw [bareP, if_neg h1, if_neg h2, if_neg h3, if_pos h4]) ?_
    exact LE_agg (.cons .refl (.cons .refl (.cons .refl (.cons .refl (.cons .refl (.cons .refl (.cons .refl (.cons .refl (.cons .refl (.cons .refl (.cons .refl (.cons .refl (.cons .refl (.cons .refl (.cons LE_nil0 (.cons .refl LE_zt))))))))))))))))
  · refine fin (q := { p with t := zeroAF }) (by rw [bareP, if_neg h1, if_neg h2, if_neg h3, if_neg h4]) ?_
    exact LE_agg (.cons .refl (.cons .refl (.cons .refl (.cons .refl (.cons .refl (.cons .refl (.cons .refl (.cons .refl (.cons .refl (.cons .refl (.cons .refl (.cons .refl (.cons .refl (.cons .refl (.cons .refl (.cons .refl LE_zt))))))))))))))))

theorem c_validspread (n : Int) : CallsG Tryz.prog 123 [i64 n] [] (pr (spOK n)) [] := by
  refine calls_to tok mix Tryz.func123 rfl rfl rfl ?_
  refine Br.mk (fun h1 => ?_) (fun h1 => LE_false (fun h => h1 h.1))
  exact LE_pr ⟨fun h => ⟨h1, h⟩, fun h => h.2⟩
theorem c_validspread' (n : Int) : CallsG Tryz.prog 296 [i64 n] [] (pr (spOK n)) [] := by
  refine calls_to tok mix Tryz.func296 rfl rfl rfl ?_
  refine Br.mk (fun h1 => ?_) (fun h1 => LE_false (fun h => h1 h.1))
  exact LE_pr ⟨fun h => ⟨h1, h⟩, fun h => h.2⟩
theorem c_validstops (p : Pnt) : CallsG Tryz.prog 122 [.agg (pntE p)] [] (pr (stopsOK p.st ∧ spOK p.sp)) [] := by
  refine calls_to tok mix Tryz.func122 rfl rfl rfl ?_
  refine CallV.to _ (c_gvalid p.st) rfl ?_
  refine Br.mk (fun h1 => ?_) (fun h1 => LE_false (fun h => h1 h.1))
  refine CallV.to _ (c_validspread p.sp) rfl ?_
  exact LE_pr ⟨fun h => ⟨h1, h⟩, fun h => h.2⟩

end Go.Gs
/- Paints that may be. -/
namespace Go.Gs
open Go.Proofs

def noImg (p : Pnt) : Prop := p.im.w = 0 ∧ p.im.h = 0 ∧ p.im.px = [] ∧ p.sm = 0
instance (p : Pnt) : Decidable (noImg p) := inferInstanceAs (Decidable (_ ∧ _))
def noRamp (p : Pnt) : Prop := p.p0 = zp ∧ p.p1 = zp ∧ p.r = 0 ∧ p.st = []
instance (p : Pnt) : Decidable (noRamp p) := inferInstanceAs (Decidable (_ ∧ _))
def has1 (p : Pnt) : Prop := noRamp p ∧ noImg p ∧ p.sp = 0 ∧ p.t.same zeroAF
instance (p : Pnt) : Decidable (has1 p) := inferInstanceAs (Decidable (_ ∧ _))
def has2 (p : Pnt) : Prop := noImg p ∧ p.c = zeroP ∧ p.r = 0 ∧ ptOK p.p0 ∧ ptOK p.p1 ∧ stopsOK p.st ∧ spOK p.sp
instance (p : Pnt) : Decidable (has2 p) := inferInstanceAs (Decidable (_ ∧ _))
def has3 (p : Pnt) : Prop := noImg p ∧ p.c = zeroP ∧ p.p1 = zp ∧ ptOK p.p0 ∧ 1 ≤ p.r ∧ p.r ≤ 1048576 ∧ stopsOK p.st ∧ spOK p.sp
instance (p : Pnt) : Decidable (has3 p) := inferInstanceAs (Decidable (_ ∧ _))
def has4 (p : Pnt) : Prop := noRamp p ∧ p.c = zeroP ∧ imgOK p.im ∧ (p.sp = 0 ∨ spOK p.sp) ∧ (p.sm = 1 ∨ p.sm = 2)
instance (p : Pnt) : Decidable (has4 p) := inferInstanceAs (Decidable (_ ∧ _))
def hasP (p : Pnt) : Prop := (p.k = 1 ∧ has1 p) ∨ (p.k = 2 ∧ has2 p) ∨ (p.k = 3 ∧ has3 p) ∨ (p.k = 4 ∧ has4 p)
instance (p : Pnt) : Decidable (hasP p) := inferInstanceAs (Decidable (_ ∨ _))
def pntOK (p : Pnt) : Prop := p.t.ok ∧ hasP p ∧ (p.k = 1 ∨ detQ p.t ≠ 0)
instance (p : Pnt) : Decidable (pntOK p) := inferInstanceAs (Decidable (_ ∧ _))

theorem bare1 {p : Pnt} (h : p.k = 1) : (bareP p).same (kindP p.k) ↔ noRamp p ∧ noImg p ∧ p.sp = 0 := by
  rw [bareP, if_pos h]
  rcases p with ⟨k, c, p0, p1, r, st, sp, ⟨w, hh, px⟩, sm, t⟩
  simp only [Pnt.same, kindP, noRamp, noImg, Img.mk.injEq]
  constructor
  · rintro ⟨_, _, h3, h4, h5, h6, h7, ⟨h8, h9, h10⟩, h11, _⟩
    exact ⟨⟨h3, h4, h5, h6⟩, ⟨h8, h9, h10, h11⟩, h7⟩
  · rintro ⟨⟨h3, h4, h5, h6⟩, ⟨h8, h9, h10, h11⟩, h7⟩
    exact ⟨trivial, trivial, h3, h4, h5, h6, h7, ⟨h8, h9, h10⟩, h11, rfl, rfl, rfl, rfl, rfl, rfl⟩
theorem bare2 {p : Pnt} (h : p.k = 2) : (bareP p).same (kindP p.k) ↔ noImg p ∧ p.c = zeroP ∧ p.r = 0 := by
  rw [bareP, if_neg (by omega), if_pos h]
  rcases p with ⟨k, c, p0, p1, r, st, sp, ⟨w, hh, px⟩, sm, t⟩
  simp only [Pnt.same, kindP, noImg, Img.mk.injEq]
  constructor
  · rintro ⟨_, h2, _, _, h5, _, _, ⟨h8, h9, h10⟩, h11, _⟩
    exact ⟨⟨h8, h9, h10, h11⟩, h2, h5⟩
  · rintro ⟨⟨h8, h9, h10, h11⟩, h2, h5⟩
    exact ⟨trivial, h2, trivial, trivial, h5, trivial, trivial, ⟨h8, h9, h10⟩, h11, rfl, rfl, rfl, rfl, rfl, rfl⟩
theorem bare3 {p : Pnt} (h : p.k = 3) : (bareP p).same (kindP p.k) ↔ noImg p ∧ p.c = zeroP ∧ p.p1 = zp := by
  rw [bareP, if_neg (by omega), if_neg (by omega), if_pos h]
  rcases p with ⟨k, c, p0, p1, r, st, sp, ⟨w, hh, px⟩, sm, t⟩
  simp only [Pnt.same, kindP, noImg, Img.mk.injEq]
  constructor
  · rintro ⟨_, h2, _, h4, _, _, _, ⟨h8, h9, h10⟩, h11, _⟩
    exact ⟨⟨h8, h9, h10, h11⟩, h2, h4⟩
  · rintro ⟨⟨h8, h9, h10, h11⟩, h2, h4⟩
    exact ⟨trivial, h2, trivial, h4, trivial, trivial, trivial, ⟨h8, h9, h10⟩, h11, rfl, rfl, rfl, rfl, rfl, rfl⟩
theorem bare4 {p : Pnt} (h : p.k = 4) : (bareP p).same (kindP p.k) ↔ noRamp p ∧ p.c = zeroP := by
  rw [bareP, if_neg (by omega), if_neg (by omega), if_neg (by omega), if_pos h]
  rcases p with ⟨k, c, p0, p1, r, st, sp, ⟨w, hh, px⟩, sm, t⟩
  simp only [Pnt.same, kindP, noRamp]
  constructor
  · rintro ⟨_, h2, h3, h4, h5, h6, _⟩
    exact ⟨⟨h3, h4, h5, h6⟩, h2⟩
  · rintro ⟨⟨h3, h4, h5, h6⟩, h2⟩
    exact ⟨trivial, h2, h3, h4, h5, h6, trivial, trivial, trivial, rfl, rfl, rfl, rfl, rfl, rfl⟩

theorem bareP_t (p : Pnt) : (bareP p).t = zeroAF := by
  unfold bareP; repeat (first | rfl | split)
theorem zeroAF_le (n : Nat) : zeroAF.le n := ⟨Nat.zero_le _, Nat.zero_le _, Nat.zero_le _, Nat.zero_le _, Nat.zero_le _, Nat.zero_le _⟩
theorem cmp_zero (x : Rat) : ¬ cmpQ x 0 = 0 ↔ x ≠ 0 := by
  have h1 := cmpQ_ge (x := x) (y := 0)
  have h2 := cmpQ_le (x := x) (y := 0)
  constructor
  · rintro h rfl
    exact h (Int.le_antisymm (h2.2 Rat.le_refl) (h1.2 Rat.le_refl))
  · intro h k
    exact h (Rat.le_antisymm (h2.1 (by omega)) (h1.1 (by omega)))

theorem detQ_len {t : AF} {n : Nat} (h : t.le n) : qlen (detQ t) ≤ 4 * n + 5 := by
  obtain ⟨ha, hb, hc, hd, _, _⟩ := h
  have h1 := qlen_sub (t.a.v * t.d.v) (t.b.v * t.c.v)
  have h2 := qlen_mul t.a.v t.d.v
  have h3 := qlen_mul t.b.v t.c.v
  have h4 := qlen_v t.a
  have h5 := qlen_v t.b
  have h6 := qlen_v t.c
  have h7 := qlen_v t.d
  unfold detQ; omega

set_option maxRecDepth 100000 in
set_option maxHeartbeats 4000000 in
theorem c_pntvalid (p : Pnt) (hp : p.t.le 1000) (hl : p.im.px.length ≤ 9223372036854775807) : CallsG Tryz.prog 86 [.agg (pntE p)] [] (pr (pntOK p)) [] := by
  refine calls_to tok mix Tryz.func86 rfl rfl rfl ?_
  have hp7 : p.t.le 10000000 := hp.up (by decide)
  refine Dr.mk (by decide +kernel) ?_
  refine CallV.to _ (a_valid p.t (hp.up (by decide))) rfl ?_
  refine Br.mk (fun h1 => LE_false (fun k => h1 k.1)) (fun h1 => ?_)
  have h1 := Decidable.not_not.1 h1
  refine CallV.to _ (c_without p) rfl ?_
  refine CallV.to _ ((c_pntequal (bareP p) (kindP p.k) (by rw [bareP_t]; exact zeroAF_le _) (zeroAF_le _)).args (.cons .refl (.cons (LE_kindP p.k) .nil))) rfl ?_
  have only : p.k = 1 ∨ p.k = 2 ∨ p.k = 3 ∨ p.k = 4 → ¬ (bareP p).same (kindP p.k) → ¬ hasP p := by
    intro _ h2 k
    rcases k with ⟨e, k⟩ | ⟨e, k⟩ | ⟨e, k⟩ | ⟨e, k⟩
    · exact h2 ((bare1 e).2 ⟨k.1, k.2.1, k.2.2.1⟩)
    · exact h2 ((bare2 e).2 ⟨k.1, k.2.1, k.2.2.1⟩)
    · exact h2 ((bare3 e).2 ⟨k.1, k.2.1, k.2.2.1⟩)
    · exact h2 ((bare4 e).2 ⟨k.1, k.2.1⟩)
  refine Br.mk (fun h2 => LE_false (fun k => only (by rcases k.2.1 with h | h | h | h <;> omega) h2 k.2.1)) (fun h2 => ?_)
  have h2 := Decidable.not_not.1 h2
  have hcmp := q_cmp (ofQ (detQ p.t)) zBR (by have := detQ_len hp; rw [ofQ_len]; omega) (Nat.zero_le _)
  rw [ofQ_v, zBR_v] at hcmp
  have det := hcmp.args (args := [.agg (brE (ofQ (detQ p.t))), .agg [bl false, .val (.slice none 0 0), bl false, .val (.slice none 0 0)]]) (.cons .refl (.cons (LE_agg LE_zBR) .nil))
  refine Br.mk (fun k1 => ?_) (fun k1 => ?_)
  · have hb := (bare1 k1).1 h2
    refine CallV.to _ ((a_equal p.t zeroAF hp7 (zeroAF_le _)).args (.cons .refl (.cons LE_zero24 .nil))) rfl ?_
    refine LE_pr ⟨fun h => ⟨h1, .inl ⟨k1, hb.1, hb.2.1, hb.2.2, h⟩, .inl k1⟩, fun h => ?_⟩
    rcases h.2.1 with ⟨e, k⟩ | ⟨e, _⟩ | ⟨e, _⟩ | ⟨e, _⟩
    · exact k.2.2.2
    all_goals omega
  refine Br.mk (fun k2 => ?_) (fun k2 => ?_)
  · have hb := (bare2 k2).1 h2
    have get : pntOK p → has2 p := fun h => by
      rcases h.2.1 with ⟨e, _⟩ | ⟨e, k⟩ | ⟨e, _⟩ | ⟨e, _⟩
      · omega
      · exact k
      all_goals omega
    refine CallV.to _ (c_vvalid p.p0) rfl ?_
    refine Br.mk (fun h3 => LE_false (fun k => h3 (get k).2.2.2.1)) (fun h3 => ?_)
    refine CallV.to _ (c_vvalid p.p1) rfl ?_
    refine Br.mk (fun h4 => LE_false (fun k => h4 (get k).2.2.2.2.1)) (fun h4 => ?_)
    refine CallV.to _ (c_validstops p) rfl ?_
    refine Br.mk (fun h5 => LE_false (fun k => h5 (get k).2.2.2.2.2)) (fun h5 => ?_)
    refine CallV.to _ (a_det p.t hp7) rfl ?_
    refine CallV.to _ det rfl ?_
    refine LE_pr ((cmp_zero _).trans ⟨fun h => ⟨h1, .inr (.inl ⟨k2, hb.1, hb.2.1, hb.2.2, Decidable.not_not.1 h3, Decidable.not_not.1 h4, Decidable.not_not.1 h5⟩), .inr h⟩, fun h => h.2.2.resolve_left (by omega)⟩)
  refine Br.mk (fun k3 => ?_) (fun k3 => ?_)
  · have hb := (bare3 k3).1 h2
    have get : pntOK p → has3 p := fun h => by
      rcases h.2.1 with ⟨e, _⟩ | ⟨e, _⟩ | ⟨e, k⟩ | ⟨e, _⟩
      · omega
      · omega
      · exact k
      · omega
    refine CallV.to _ (c_vvalid p.p0) rfl ?_
    refine Br.mk (fun h3 => LE_false (fun k => h3 (get k).2.2.2.1)) (fun h3 => ?_)
    refine Br.mk (fun h4 => LE_false (fun k => by have := (get k).2.2.2.2.1; omega)) (fun h4 => ?_)
    refine Br.mk (fun h5 => LE_false (fun k => by have := (get k).2.2.2.2.2.1; omega)) (fun h5 => ?_)
    refine CallV.to _ (c_validstops p) rfl ?_
    refine Br.mk (fun h6 => LE_false (fun k => h6 (get k).2.2.2.2.2.2)) (fun h6 => ?_)
    refine CallV.to _ (a_det p.t hp7) rfl ?_
    refine CallV.to _ det rfl ?_
    refine LE_pr ((cmp_zero _).trans ⟨fun h => ⟨h1, .inr (.inr (.inl ⟨k3, hb.1, hb.2.1, hb.2.2, Decidable.not_not.1 h3, by omega, by omega, Decidable.not_not.1 h6⟩)), .inr h⟩, fun h => h.2.2.resolve_left (by omega)⟩)
  refine Br.mk (fun k4 => ?_) (fun k4 => ?_)
  · have hb := (bare4 k4).1 h2
    have get : pntOK p → has4 p := fun h => by
      rcases h.2.1 with ⟨e, _⟩ | ⟨e, _⟩ | ⟨e, _⟩ | ⟨e, k⟩
      · omega
      · omega
      · omega
      · exact k
    refine CallV.to _ (c_valid p.im hl) rfl ?_
    refine Br.mk (fun h3 => LE_false (fun k => h3 (get k).2.2.1)) (fun h3 => ?_)
    refine Br.mk (fun h4 => ?_) (fun h4 => ?_)
    · refine CallV.to _ (c_validspread p.sp) rfl ?_
      refine Br.mk (fun h5 => LE_false (fun k => by rcases (get k).2.2.2.1 with h | h; exact h4 h; exact h5 h)) (fun h5 => ?_)
      refine Br.mk (fun h6 => ?_) (fun h6 => ?_)
      · refine Br.mk (fun h7 => LE_false (fun k => by have := (get k).2.2.2.2; omega)) (fun h7 => ?_)
        refine CallV.to _ (a_det p.t hp7) rfl ?_
        refine CallV.to _ det rfl ?_
        refine LE_pr ((cmp_zero _).trans ⟨fun h => ⟨h1, .inr (.inr (.inr ⟨k4, hb.1, hb.2, Decidable.not_not.1 h3, .inr (Decidable.not_not.1 h5), by omega⟩)), .inr h⟩, fun h => h.2.2.resolve_left (by omega)⟩)
      · refine CallV.to _ (a_det p.t hp7) rfl ?_
        refine CallV.to _ det rfl ?_
        refine LE_pr ((cmp_zero _).trans ⟨fun h => ⟨h1, .inr (.inr (.inr ⟨k4, hb.1, hb.2, Decidable.not_not.1 h3, .inr (Decidable.not_not.1 h5), by omega⟩)), .inr h⟩, fun h => h.2.2.resolve_left (by omega)⟩)
    · refine Br.mk (fun h6 => ?_) (fun h6 => ?_)
      · refine Br.mk (fun h7 => LE_false (fun k => by have := (get k).2.2.2.2; omega)) (fun h7 => ?_)
        refine CallV.to _ (a_det p.t hp7) rfl ?_
        refine CallV.to _ det rfl ?_
        refine LE_pr ((cmp_zero _).trans ⟨fun h => ⟨h1, .inr (.inr (.inr ⟨k4, hb.1, hb.2, Decidable.not_not.1 h3, .inl (by omega), by omega⟩)), .inr h⟩, fun h => h.2.2.resolve_left (by omega)⟩)
      · refine CallV.to _ (a_det p.t hp7) rfl ?_
        refine CallV.to _ det rfl ?_
        refine LE_pr ((cmp_zero _).trans ⟨fun h => ⟨h1, .inr (.inr (.inr ⟨k4, hb.1, hb.2, Decidable.not_not.1 h3, .inl (by omega), by omega⟩)), .inr h⟩, fun h => h.2.2.resolve_left (by omega)⟩)
  · exact LE_false (fun k => by rcases k.2.1 with ⟨e, _⟩ | ⟨e, _⟩ | ⟨e, _⟩ | ⟨e, _⟩ <;> omega)

end Go.Gs
/- Paints that may be, the other text; small ones. -/
namespace Go.Gs
open Go.Proofs

theorem pix_z {p : Pix} : (p.r = 0 ∧ p.g = 0 ∧ p.b = 0 ∧ p.a = 0 ∧ True) ↔ p = zeroP := pix_eq (q := zeroP)
theorem pt_z {p : Pt} : (p.x = 0 ∧ p.y = 0 ∧ True) ↔ p = zp := pt_eq (q := zp)
theorem c_ramp (p : Pnt) : CallsG Tryz.prog 293 [.agg (pntE p)] [] (pr (noRamp p)) [] := by
  refine calls_to tok mix Tryz.func293 rfl rfl rfl ?_
  refine Br.mk (fun h1 => ?_) (fun h1 => LE_false (fun h => h1 (pt_eq.2 h.1)))
  refine Br.mk (fun h2 => ?_) (fun h2 => LE_false (fun h => h2 (pt_eq.2 h.2.1)))
  refine Br.mk (fun h3 => ?_) (fun h3 => LE_false (fun h => h3 h.2.2.1))
  intro hl
  exact LE_pr ⟨fun h => ⟨pt_z.1 h1, pt_z.1 h2, h3, List.length_eq_zero_iff.1 (by omega)⟩, fun h => by rw [h.2.2.2]; rfl⟩

theorem c_noimage (p : Pnt) : CallsG Tryz.prog 294 [.agg (pntE p)] [] (pr (noImg p)) [] := by
  refine calls_to tok mix Tryz.func294 rfl rfl rfl ?_
  refine Br.mk (fun h1 => ?_) (fun h1 => LE_false (fun h => h1 h.1))
  refine Br.mk (fun h2 => ?_) (fun h2 => LE_false (fun h => h2 h.2.1))
  intro hl
  refine Br.mk (fun h3 => ?_) (fun h3 => LE_false (fun h => h3 (by rw [h.2.2.1]; rfl)))
  exact LE_pr ⟨fun h => ⟨h1, h2, List.length_eq_zero_iff.1 (by omega), h⟩, fun h => h.2.2.2⟩

theorem c_zerot (t : AF) (ht : t.le 10000000) : CallsG Tryz.prog 295 [.agg (afE t)] [] (pr (t.same zeroAF)) [] := by
  refine calls_to tok mix Tryz.func295 rfl rfl rfl ?_
  refine CallV.to _ ((r12_equal t zeroAF ht (zeroAF_le _)).args (.cons .refl (.cons LE_zero24 .nil))) rfl ?_
  exact .refl

set_option maxRecDepth 100000 in
set_option maxHeartbeats 4000000 in
theorem c_has (p : Pnt) (hp : p.t.le 10000000) : CallsG Tryz.prog 255 [.agg (pntE p)] [] (pr (hasP p)) [] := by
  refine calls_to tok mix Tryz.func255 rfl rfl rfl ?_
  refine Br.mk (fun k1 => ?_) (fun k1 => ?_)
  · have get : hasP p → has1 p := fun h => by rcases h with ⟨e, k⟩ | ⟨e, k⟩ | ⟨e, k⟩ | ⟨e, k⟩ <;> first | exact k | omega
    refine CallV.to _ (c_ramp p) rfl ?_
    refine Br.mk (fun h1 => ?_) (fun h1 => LE_false (fun k => h1 (get k).1))
    refine CallV.to _ (c_noimage p) rfl ?_
    refine Br.mk (fun h2 => ?_) (fun h2 => LE_false (fun k => h2 (get k).2.1))
    refine Br.mk (fun h3 => ?_) (fun h3 => LE_false (fun k => h3 (get k).2.2.1))
    refine CallV.to _ (c_zerot p.t hp) rfl ?_
    exact LE_pr ⟨fun h => .inl ⟨k1, h1, h2, h3, h⟩, fun k => (get k).2.2.2⟩
  refine Br.mk (fun k2 => ?_) (fun k2 => ?_)
  · have get : hasP p → has2 p := fun h => by rcases h with ⟨e, k⟩ | ⟨e, k⟩ | ⟨e, k⟩ | ⟨e, k⟩ <;> first | exact k | omega
    refine CallV.to _ (c_noimage p) rfl ?_
    refine Br.mk (fun h1 => ?_) (fun h1 => LE_false (fun k => h1 (get k).1))
    refine Br.mk (fun h2 => ?_) (fun h2 => LE_false (fun k => h2 (pix_z.2 (get k).2.1)))
    refine Br.mk (fun h3 => ?_) (fun h3 => LE_false (fun k => h3 (get k).2.2.1))
    refine CallV.to _ (c_ptvalid' p.p0) rfl ?_
    refine Br.mk (fun h4 => ?_) (fun h4 => LE_false (fun k => h4 (get k).2.2.2.1))
    refine CallV.to _ (c_ptvalid' p.p1) rfl ?_
    refine Br.mk (fun h5 => ?_) (fun h5 => LE_false (fun k => h5 (get k).2.2.2.2.1))
    refine CallV.to _ (c_gvalid' p.st) rfl ?_
    refine Br.mk (fun h6 => ?_) (fun h6 => LE_false (fun k => h6 (get k).2.2.2.2.2.1))
    refine CallV.to _ (c_validspread' p.sp) rfl ?_
    exact LE_pr ⟨fun h => .inr (.inl ⟨k2, h1, pix_z.1 h2, h3, h4, h5, h6, h⟩), fun k => (get k).2.2.2.2.2.2⟩
  refine Br.mk (fun k3 => ?_) (fun k3 => ?_)
  · have get : hasP p → has3 p := fun h => by rcases h with ⟨e, k⟩ | ⟨e, k⟩ | ⟨e, k⟩ | ⟨e, k⟩ <;> first | exact k | omega
    refine CallV.to _ (c_noimage p) rfl ?_
    refine Br.mk (fun h1 => ?_) (fun h1 => LE_false (fun k => h1 (get k).1))
    refine Br.mk (fun h2 => ?_) (fun h2 => LE_false (fun k => h2 (pix_z.2 (get k).2.1)))
    refine Br.mk (fun h3 => ?_) (fun h3 => LE_false (fun k => h3 (pt_z.2 (get k).2.2.1)))
    refine CallV.to _ (c_ptvalid' p.p0) rfl ?_
    refine Br.mk (fun h4 => ?_) (fun h4 => LE_false (fun k => h4 (get k).2.2.2.1))
    refine Br.mk (fun h5 => ?_) (fun h5 => LE_false (fun k => h5 (get k).2.2.2.2.1))
    refine Br.mk (fun h6 => ?_) (fun h6 => LE_false (fun k => h6 (get k).2.2.2.2.2.1))
    refine CallV.to _ (c_gvalid' p.st) rfl ?_
    refine Br.mk (fun h7 => ?_) (fun h7 => LE_false (fun k => h7 (get k).2.2.2.2.2.2.1))
    refine CallV.to _ (c_validspread' p.sp) rfl ?_
    exact LE_pr ⟨fun h => .inr (.inr (.inl ⟨k3, h1, pix_z.1 h2, pt_z.1 h3, h4, h5, h6, h7, h⟩)), fun k => (get k).2.2.2.2.2.2.2⟩
  refine Br.mk (fun k4 => ?_) (fun k4 => ?_)
  · have get : hasP p → has4 p := fun h => by rcases h with ⟨e, k⟩ | ⟨e, k⟩ | ⟨e, k⟩ | ⟨e, k⟩ <;> first | exact k | omega
    refine CallV.to _ (c_ramp p) rfl ?_
    refine Br.mk (fun h1 => ?_) (fun h1 => LE_false (fun k => h1 (get k).1))
    refine Br.mk (fun h2 => ?_) (fun h2 => LE_false (fun k => h2 (pix_z.2 (get k).2.1)))
    refine CallV.to _ (c_valid' p.im) rfl ?_
    refine Br.mk (fun h3 => ?_) (fun h3 => LE_false (fun k => h3 (get k).2.2.1))
    have yes : (p.sp = 0 ∨ spOK p.sp) → (p.sm = 1 ∨ p.sm = 2) → hasP p := fun a b => .inr (.inr (.inr ⟨k4, h1, pix_z.1 h2, h3, a, b⟩))
    refine Br.mk (fun h4 => ?_) (fun h4 => ?_)
    · refine Br.mk (fun h5 => LE_true (yes (.inl h4) (.inl h5))) (fun h5 => ?_)
      exact LE_pr ⟨fun h => yes (.inl h4) (.inr h), fun k => (get k).2.2.2.2.resolve_left h5⟩
    · refine CallV.to _ (c_validspread' p.sp) rfl ?_
      refine Br.mk (fun h6 => ?_) (fun h6 => LE_false (fun k => by rcases (get k).2.2.2.1 with h | h; exact h4 h; exact h6 h))
      refine Br.mk (fun h5 => LE_true (yes (.inr h6) (.inl h5))) (fun h5 => ?_)
      exact LE_pr ⟨fun h => yes (.inr h6) (.inr h), fun k => (get k).2.2.2.2.resolve_left h5⟩
  · exact LE_false (fun k => by rcases k with ⟨e, _⟩ | ⟨e, _⟩ | ⟨e, _⟩ | ⟨e, _⟩ <;> omega)

set_option maxRecDepth 100000 in
set_option maxHeartbeats 4000000 in
theorem c_pntvalid' (p : Pnt) (hp : p.t.le 1000) : CallsG Tryz.prog 199 [.agg (pntE p)] [] (pr (pntOK p)) [] := by
  refine calls_to tok mix Tryz.func199 rfl rfl rfl ?_
  refine CallV.to _ (r12_valid p.t (hp.up (by decide))) rfl ?_
  refine Br.mk (fun h1 => LE_false (fun k => h1 k.1)) (fun h1 => ?_)
  have h1 := Decidable.not_not.1 h1
  refine CallV.to _ (c_has p (hp.up (by decide))) rfl ?_
  refine Br.mk (fun h2 => LE_false (fun k => h2 k.2.1)) (fun h2 => ?_)
  have h2 := Decidable.not_not.1 h2
  refine Br.mk (fun h3 => LE_true ⟨h1, h2, .inl h3⟩) (fun h3 => ?_)
  refine CallV.to _ (r12_det p.t (hp.up (by decide))) rfl ?_
  have hz := r3_fromInt 0 (by decide)
  refine CallV.to _ hz rfl ?_
  have hcmp := r3_cmp (ofQ (detQ p.t)) (ofQ ((0 : Int) : Rat)) (by have := detQ_len hp; rw [ofQ_len]; omega) (by have := qlen_i64 (n := 0) (by decide); rw [ofQ_len]; omega)
  rw [ofQ_v, ofQ_v] at hcmp
  refine CallV.to _ hcmp rfl ?_
  refine LE_pr ((cmp_zero _).trans ⟨fun h => ⟨h1, h2, .inr h⟩, fun h => h.2.2.resolve_left h3⟩)

def fewP (p : Pnt) : Prop := (p.st.length : Int) ≤ 40 ∧ (p.im.px.length : Int) ≤ 300 ∧ p.t.le 12
instance (t : AF) (n : Nat) : Decidable (t.le n) := inferInstanceAs (Decidable (_ ∧ _))
instance (p : Pnt) : Decidable (fewP p) := inferInstanceAs (Decidable (_ ∧ _))

theorem le_len (a : BR) : (a.len ≤ 12 ↔ (a.num.mag.length : Int) ≤ 12 ∧ (a.den.mag.length : Int) ≤ 12) := by
  unfold BR.len; omega

end Go.Gs
/- Samples of a picture, the program's: Sample. -/
namespace Go.Gs
open Go.Proofs

def smp (m : Img) (look md : Int) (x y : Rat) : Pix :=
  if (look = 1 ∨ look = 2) ∧ imgOK m ∧ nearQ x ∧ nearQ y then (if look = 2 then smoothP m md x y else texelI m (flo x) (flo y) md) else zeroP

set_option maxRecDepth 100000 in
set_option maxHeartbeats 4000000 in
theorem c_sample (m : Img) (look md : Int) (a b : BR) (hl : m.px.length ≤ 9223372036854775807) (h8 : ∀ q ∈ m.px, P8 q) (ha : a.len ≤ 1000000) (hb : b.len ≤ 1000000) :
    CallsG Tryz.prog 341 [.agg (imgE m), i64 look, i64 md, .agg (brE a), .agg (brE b)] [] (.agg (pixE (smp m look md a.v b.v))) [] := by
  refine calls_to tok mix Tryz.func341 rfl rfl rfl ?_
  have no : ¬ ((look = 1 ∨ look = 2) ∧ imgOK m ∧ nearQ a.v ∧ nearQ b.v) → LE (.agg (pixE zeroP)) (.agg (pixE (smp m look md a.v b.v))) := fun h => by
    unfold smp; rw [if_neg h]; exact .refl
  refine Br.mk (fun h => absurd h (by decide)) (fun _ => ?_)
  refine Br.mk (fun e => ?_) (fun e => ?_)
  · refine CallV.to _ (c_valid m hl) rfl ?_
    refine Br.mk (fun h1 => no fun h => h1 h.2.1) (fun h1 => ?_)
    have h1 := Decidable.not_not.1 h1
    refine CallV.to _ (c_inear a (by omega)) rfl ?_
    refine Br.mk (fun h2 => no fun h => h2 h.2.2.1) (fun h2 => ?_)
    have h2 := Decidable.not_not.1 h2
    refine CallV.to _ (c_inear b (by omega)) rfl ?_
    refine Br.mk (fun h3 => no fun h => h3 h.2.2.2) (fun h3 => ?_)
    have h3 := Decidable.not_not.1 h3
    refine CallV.to _ (c_inearest m md a b h1 (by omega) (by omega)) rfl ?_
    have : smp m look md a.v b.v = texelI m (flo a.v) (flo b.v) md := by
      unfold smp; rw [if_pos ⟨.inl e, h1, h2, h3⟩, if_neg (by omega)]
    rw [this]
    exact .refl
  refine Br.mk (fun e2 => ?_) (fun e2 => ?_)
  · refine CallV.to _ (c_valid m hl) rfl ?_
    refine Br.mk (fun h1 => no fun h => h1 h.2.1) (fun h1 => ?_)
    have h1 := Decidable.not_not.1 h1
    refine CallV.to _ (c_inear a (by omega)) rfl ?_
    refine Br.mk (fun h2 => no fun h => h2 h.2.2.1) (fun h2 => ?_)
    have h2 := Decidable.not_not.1 h2
    refine CallV.to _ (c_inear b (by omega)) rfl ?_
    refine Br.mk (fun h3 => no fun h => h3 h.2.2.2) (fun h3 => ?_)
    have h3 := Decidable.not_not.1 h3
    refine CallV.to _ (c_smooth m md a b h1 h8 ha hb) rfl ?_
    have : smp m look md a.v b.v = smoothP m md a.v b.v := by
      unfold smp; rw [if_pos ⟨.inr e2, h1, h2, h3⟩, if_pos e2]
    rw [this]
    exact .refl
  · exact no fun h => h.1.elim e e2

end Go.Gs
/- Samples of a picture, the other text's; the law. -/
namespace Go.Gs
open Go.Proofs

theorem c_inrange (a : BR) (ha : a.len ≤ 10000000) : CallsG Tryz.prog 220 [.agg (brE a)] [] (pr (nearQ a.v)) [] := by
  have l1 := int_len (show R64 (-1073741824) by decide)
  have l2 := int_len (show R64 1073741824 by decide)
  refine calls_to tok mix Tryz.func220 rfl rfl rfl ?_
  refine Dr.mk (by decide +kernel) ?_
  refine CallV.to _ (r3_fromInt 1073741824 (by decide)) rfl ?_
  refine CallV.to _ (r3_cmp a (ofQ ((1073741824 : Int) : Rat)) (by omega) (by omega)) rfl ?_
  rw [ofQ_v]
  refine Br.mk (fun h1 => ?_) (fun h1 => ?_)
  · refine CallV.to _ (r3_fromInt (-1073741824) (by decide)) rfl ?_
    refine CallV.to _ (r3_cmp a (ofQ ((-1073741824 : Int) : Rat)) (by omega) (by omega)) rfl ?_
    rw [ofQ_v]
    exact LE_pr ⟨fun h2 => ⟨cmpQ_ge.1 h2, cmpQ_le.1 h1⟩, fun h => cmpQ_ge.2 h.1⟩
  · exact LE_false fun h => h1 (cmpQ_le.2 h.2)

theorem c_rfloor (a : BR) (ha : a.len ≤ 10000000) : CallsG Tryz.prog 222 [.agg (brE a)] [] (i64 (flo a.v)) [] := by
  have l1 := qlen_v a
  have l2 := floor_len a.v
  refine calls_to tok mix Tryz.func222 rfl rfl rfl ?_
  refine CallV.to _ (r3_floor a (by omega)) rfl ?_
  refine CallV.to _ (r2_toint (ofZ a.v.floor) (by rw [ofZ_len]; omega)) rfl ?_
  rw [ofZ_v]
  exact .refl

theorem c_rfine (a : BR) (ha : a.len ≤ 1000000) : CallsG Tryz.prog 224 [.agg (brE a)] [] (i64 (fineQ a.v)) [] := by
  have l1 := int_len (show R64 256 by decide)
  have l2 := half_len
  have l3 := qlen_v a
  have l4 : qlen (Rat.divInt 1 2) ≤ 1 := half_len
  have l5 := qlen_sub a.v (Rat.divInt 1 2)
  have l6 : qlen ((256 : Int) : Rat) ≤ 2 := l1
  have l7 := qlen_mul ((256 : Int) : Rat) (a.v - Rat.divInt 1 2)
  refine calls_to tok mix Tryz.func224 rfl rfl rfl ?_
  refine CallV.to _ (r3_fromints 1 2 (by decide) (by decide) (by decide)) rfl ?_
  refine Dr.mk (by decide +kernel) ?_
  refine CallV.to _ (r3_fromInt 256 (by decide)) rfl ?_
  refine CallV.to _ (r3_sub a (ofQ (Rat.divInt 1 2)) (by omega) (by omega)) rfl ?_
  rw [ofQ_v]
  refine CallV.to _ (r3_mul (ofQ ((256 : Int) : Rat)) (ofQ (a.v - Rat.divInt 1 2)) (by omega) (by rw [ofQ_len]; omega)) rfl ?_
  rw [ofQ_v, ofQ_v]
  refine CallV.to _ (c_rfloor (ofQ (((256 : Int) : Rat) * (a.v - Rat.divInt 1 2))) (by rw [ofQ_len]; omega)) rfl ?_
  rw [ofQ_v]
  exact .refl

def lerp (a b c d f g : Int) : Int := (a * (256 - f) + b * f) * (256 - g) + (c * (256 - f) + d * f) * g
theorem lerp_acc (f g : Int) (V : Nat → Int) : lerp (V 0) (V 1) (V 2) (V 3) f g = accW (wgt f g) V 4 := by
  show _ = 0 + wgt f g 0 * V 0 + wgt f g 1 * V 1 + wgt f g 2 * V 2 + wgt f g 3 * V 3
  unfold lerp wgt
  grind
theorem c_interp (V : Nat → Int) (f g : Int) (hf : 0 ≤ f ∧ f ≤ 255) (hg : 0 ≤ g ∧ g ≤ 255) (hv : ∀ n, R8 (V n)) :
    CallsG Tryz.prog 271 [u8 (V 0), u8 (V 1), u8 (V 2), u8 (V 3), i64 f, i64 g] [] (u8 (bR (accW (wgt f g) V 4))) [] := by
  have key : ∀ a b A : Int, R8 a → 0 ≤ b → b ≤ 256 → 0 ≤ a * b ∧ a * b ≤ 65280 := fun a b A h1 h3 h4 => by
    have h5 := Int.mul_nonneg h1.1 h3
    have h6 : a * b ≤ 255 * b := Int.mul_le_mul_of_nonneg_right h1.2 h3
    omega
  have k0 := key (V 0) (256 - f) 0 (hv 0) (by omega) (by omega)
  have k1 := key (V 1) f 0 (hv 1) (by omega) (by omega)
  have k2 := key (V 2) (256 - f) 0 (hv 2) (by omega) (by omega)
  have k3 := key (V 3) f 0 (hv 3) (by omega) (by omega)
  have key2 : ∀ a b : Int, 0 ≤ a → a ≤ 130560 → 0 ≤ b → b ≤ 256 → 0 ≤ a * b ∧ a * b ≤ 33423360 := fun a b h1 h2 h3 h4 => by
    have h5 := Int.mul_nonneg h1 h3
    have h6 : a * b ≤ 130560 * b := Int.mul_le_mul_of_nonneg_right h2 h3
    omega
  have m0 := key2 (V 0 * (256 - f) + V 1 * f) (256 - g) (by omega) (by omega) (by omega) (by omega)
  have m1 := key2 (V 2 * (256 - f) + V 3 * f) g (by omega) (by omega) (by omega) (by omega)
  have ha := acc4 hf hg hv
  have hr := bR_range ha
  have h0 := hv 0
  have h1 := hv 1
  have h2 := hv 2
  have h3 := hv 3
  unfold R8 at h0 h1 h2 h3
  have el : (V 0 * (256 - f) + V 1 * f) * (256 - g) + (V 2 * (256 - f) + V 3 * f) * g = accW (wgt f g) V 4 := lerp_acc f g V
  refine calls_to tok mix Tryz.func271 rfl rfl rfl ?_
  refine Ar.fit (by omega) ?_
  refine Ar.fit (by omega) ?_
  refine Ar.fit (by omega) ?_
  refine Ar.fit (by omega) ?_
  refine Ar.fit (by omega) ?_
  refine Ar.fit (by omega) ?_
  refine Ar.fit (by omega) ?_
  refine Ar.fit (by omega) ?_
  refine Ar.fit (by omega) ?_
  refine Ar.fit (by omega) ?_
  refine Ar.fit (by omega) ?_
  refine Ar.fit (by omega) ?_
  refine Ar.fit (by omega) ?_
  refine Ar.fit (by omega) ?_
  refine Ar.fit (by omega) ?_
  refine Ar.fit (by omega) ?_
  rw [el]
  refine CallV.to _ (r8_divround (accW (wgt f g) V 4) 65536 (by unfold R64; omega) (by decide)) rfl ?_
  rw [show fitI (rdiv (accW (wgt f g) V 4) 65536) = bR (accW (wgt f g) V 4) by unfold bR at *; unfold fitI; rw [if_pos (by omega)]]
  refine Ar.fit (by omega) ?_
  exact .refl

end Go.Gs
/- Samples of a picture, the other text's: Sample; the law. -/
namespace Go.Gs
open Go.Proofs

set_option maxRecDepth 100000 in
set_option maxHeartbeats 4000000 in
theorem c_bilinear (m : Img) (md u v : Int) (hm : imgOK m) (h8 : ∀ q ∈ m.px, P8 q) (ru : R64 u) (rv : R64 v) :
    CallsG Tryz.prog 223 [.agg (imgE m), i64 md, i64 u, i64 v] []
      (.agg [u8 (bR (sumP (wgt (u % 256) (v % 256)) (px4 m md (u / 256) (v / 256)) 4).r), u8 (bR (sumP (wgt (u % 256) (v % 256)) (px4 m md (u / 256) (v / 256)) 4).g),
        u8 (bR (sumP (wgt (u % 256) (v % 256)) (px4 m md (u / 256) (v / 256)) 4).b), u8 (bR (sumP (wgt (u % 256) (v % 256)) (px4 m md (u / 256) (v / 256)) 4).a)]) [] := by
  refine calls_to tok mix Tryz.func223 rfl rfl rfl ?_
  unfold R64 at ru rv
  refine Ob.mk (by decide) ?_
  refine Ob.mk (by decide) ?_
  have eu : u / 2 ^ 8 = u / 256 := rfl
  have ev : v / 2 ^ 8 = v / 256 := rfl
  refine Ar.fit (by show _ ≤ 256 * (u / 256) ∧ 256 * (u / 256) ≤ _; omega) ?_
  refine Ar.fit (by show _ ≤ u - 256 * (u / 256) ∧ u - 256 * (u / 256) ≤ _; omega) ?_
  refine Ar.fit (by show _ ≤ 256 * (v / 256) ∧ 256 * (v / 256) ≤ _; omega) ?_
  refine Ar.fit (by show _ ≤ v - 256 * (v / 256) ∧ v - 256 * (v / 256) ≤ _; omega) ?_
  have fu : u - 256 * (u / 256) = u % 256 := by omega
  have fv : v - 256 * (v / 256) = v % 256 := by omega
  have hi : -36028797018963968 ≤ u / 256 ∧ u / 256 ≤ 36028797018963967 := by omega
  have hk : -36028797018963968 ≤ v / 256 ∧ v / 256 ≤ 36028797018963967 := by omega
  have hf : 0 ≤ u % 256 ∧ u % 256 ≤ 255 := by omega
  have hg : 0 ≤ v % 256 ∧ v % 256 ≤ 255 := by omega
  rw [eu, ev, fu, fv]
  generalize u / 256 = i at *
  generalize v / 256 = k at *
  generalize u % 256 = f at *
  generalize v % 256 = g at *
  have hQ8 : ∀ n, P8 (px4 m md i k n) := fun n => texelI_P8 h8 _ _ _
  have t0 : CallsG Tryz.prog 221 [.agg (imgE m), i64 i, i64 k, i64 md] [] (.agg (pixE (px4 m md i k 0))) [] := by
    have := c_texel0' m i k md hm (by unfold R64; omega) (by unfold R64; omega)
    rw [show texelI m i k md = px4 m md i k 0 by unfold px4; simp] at this; exact this
  have t1 : CallsG Tryz.prog 221 [.agg (imgE m), i64 (i + 1), i64 k, i64 md] [] (.agg (pixE (px4 m md i k 1))) [] := by
    have := c_texel0' m (i + 1) k md hm (by unfold R64; omega) (by unfold R64; omega)
    rw [show texelI m (i + 1) k md = px4 m md i k 1 by unfold px4; simp] at this; exact this
  have t2 : CallsG Tryz.prog 221 [.agg (imgE m), i64 i, i64 (k + 1), i64 md] [] (.agg (pixE (px4 m md i k 2))) [] := by
    have := c_texel0' m i (k + 1) md hm (by unfold R64; omega) (by unfold R64; omega)
    rw [show texelI m i (k + 1) md = px4 m md i k 2 by unfold px4; simp] at this; exact this
  have t3 : CallsG Tryz.prog 221 [.agg (imgE m), i64 (i + 1), i64 (k + 1), i64 md] [] (.agg (pixE (px4 m md i k 3))) [] := by
    have := c_texel0' m (i + 1) (k + 1) md hm (by unfold R64; omega) (by unfold R64; omega)
    rw [show texelI m (i + 1) (k + 1) md = px4 m md i k 3 by unfold px4; simp] at this; exact this
  generalize px4 m md i k = Q at *
  refine Dr.mk (by decide +kernel) ?_
  refine CallV.to _ t0 rfl ?_
  refine Ar.fit (by omega) ?_
  refine CallV.to _ t1 rfl ?_
  refine Dr.mk (by decide +kernel) ?_
  refine Ar.fit (by omega) ?_
  refine CallV.to _ t2 rfl ?_
  refine Ar.fit (by omega) ?_
  refine Ar.fit (by omega) ?_
  refine CallV.to _ t3 rfl ?_
  refine Dr.mk (by decide +kernel) ?_
  refine CallV.to _ (c_interp (fun n => (Q n).r) f g hf hg (fun n => (hQ8 n).1)) rfl ?_
  refine CallV.to _ (c_interp (fun n => (Q n).g) f g hf hg (fun n => (hQ8 n).2.1)) rfl ?_
  refine CallV.to _ (c_interp (fun n => (Q n).b) f g hf hg (fun n => (hQ8 n).2.2.1)) rfl ?_
  refine CallV.to _ (c_interp (fun n => (Q n).a) f g hf hg (fun n => (hQ8 n).2.2.2)) rfl ?_
  exact .refl

set_option maxRecDepth 100000 in
theorem c_sample' (m : Img) (look md : Int) (a b : BR) (h8 : ∀ q ∈ m.px, P8 q) (ha : a.len ≤ 1000000) (hb : b.len ≤ 1000000) :
    CallsG Tryz.prog 154 [.agg (imgE m), i64 look, i64 md, .agg (brE a), .agg (brE b)] [] (.agg (pixE (smp m look md a.v b.v))) [] := by
  refine calls_to tok mix Tryz.func154 rfl rfl rfl ?_
  have no : ¬ ((look = 1 ∨ look = 2) ∧ imgOK m ∧ nearQ a.v ∧ nearQ b.v) → LE (.agg (pixE zeroP)) (.agg (pixE (smp m look md a.v b.v))) := fun h => by
    unfold smp; rw [if_neg h]; exact .refl
  refine CallV.to _ (c_valid' m) rfl ?_
  refine Br.mk (fun h1 => no fun h => h1 h.2.1) (fun h1 => ?_)
  have h1 := Decidable.not_not.1 h1
  refine CallV.to _ (c_inrange a (by omega)) rfl ?_
  refine Br.mk (fun h2 => no fun h => h2 h.2.2.1) (fun h2 => ?_)
  have h2 := Decidable.not_not.1 h2
  refine CallV.to _ (c_inrange b (by omega)) rfl ?_
  refine Br.mk (fun h3 => no fun h => h3 h.2.2.2) (fun h3 => ?_)
  have h3 := Decidable.not_not.1 h3
  refine Br.mk (fun e => ?_) (fun e => ?_)
  · refine Dr.mk (by decide +kernel) ?_
    refine CallV.to _ (c_rfloor a (by omega)) rfl ?_
    refine CallV.to _ (c_rfloor b (by omega)) rfl ?_
    refine CallV.to _ (c_texel0' m (flo a.v) (flo b.v) md h1 (flo_r64 _) (flo_r64 _)) rfl ?_
    have : smp m look md a.v b.v = texelI m (flo a.v) (flo b.v) md := by
      unfold smp; rw [if_pos ⟨.inl e, h1, h2, h3⟩, if_neg (by omega)]
    rw [this]
    exact .refl
  refine Br.mk (fun e2 => ?_) (fun e2 => ?_)
  · refine Dr.mk (by decide +kernel) ?_
    refine CallV.to _ (c_rfine a ha) rfl ?_
    refine CallV.to _ (c_rfine b hb) rfl ?_
    refine CallV.to _ (c_bilinear m md (fineQ a.v) (fineQ b.v) h1 h8 (flo_r64 _) (flo_r64 _)) rfl ?_
    have : smp m look md a.v b.v = smoothP m md a.v b.v := by
      unfold smp; rw [if_pos ⟨.inr e2, h1, h2, h3⟩, if_pos e2]
    rw [this]
    exact .refl
  · exact no fun h => h.1.elim e e2

theorem texelI_ok {m : Img} (h : imgOK m) (x y md : Int) : pxOK (texelI m x y md) := by
  unfold texelI
  split
  · rw [List.getD_eq_getElem?_getD]
    cases hq : m.px[((wrapI y m.h md).1 * m.w + (wrapI x m.w md).1).toNat]? with
    | none => exact ⟨by decide, by decide, by decide⟩
    | some q => exact h.2.2.2.2 q (List.mem_of_getElem? hq)
  · exact ⟨by decide, by decide, by decide⟩
theorem acc_mono {W V V' : Nat → Int} (hw : ∀ n, 0 ≤ W n) (hv : ∀ n, V n ≤ V' n) : ∀ n, accW W V n ≤ accW W V' n
  | 0 => Int.le_refl _
  | n + 1 => Int.add_le_add (acc_mono hw hv n) (Int.mul_le_mul_of_nonneg_left (hv n) (hw n))
theorem bR_mono {s t : Int} (h0 : 0 ≤ s) (h : s ≤ t) : bR s ≤ bR t := by
  unfold bR rdiv
  rw [if_pos (by omega), if_pos (by omega), show Int.natAbs 65536 = 65536 from rfl]
  omega
theorem smp_ok (m : Img) (look md : Int) (x y : Rat) (h8 : ∀ q ∈ m.px, P8 q) : pxOK (smp m look md x y) := by
  unfold smp
  by_cases h : (look = 1 ∨ look = 2) ∧ imgOK m ∧ nearQ x ∧ nearQ y
  · rw [if_pos h]
    by_cases e : look = 2
    · rw [if_pos e]
      have hf : 0 ≤ fineQ x % 256 ∧ fineQ x % 256 ≤ 255 := by omega
      have hg : 0 ≤ fineQ y % 256 ∧ fineQ y % 256 ≤ 255 := by omega
      have hW := fun n => (wgt_range hf hg n).1
      have hQ := fun n => texelI_ok h.2.1 (fineQ x / 256 + (n : Nat) % 2) (fineQ y / 256 + (n : Nat) / 2) md
      have h8n : ∀ n, P8 (px4 m md (fineQ x / 256) (fineQ y / 256) n) := fun n => texelI_P8 h8 _ _ _
      refine ⟨bR_mono (acc4 hf hg fun n => (h8n n).1).1 (acc_mono hW (fun n => (hQ n).1) 4), bR_mono (acc4 hf hg fun n => (h8n n).2.1).1 (acc_mono hW (fun n => (hQ n).2.1) 4), bR_mono (acc4 hf hg fun n => (h8n n).2.2.1).1 (acc_mono hW (fun n => (hQ n).2.2) 4)⟩
    · rw [if_neg e]; exact texelI_ok h.2.1 _ _ _
  · rw [if_neg h]; exact ⟨by decide, by decide, by decide⟩

end Go.Gs
/- The other text's brush: its error, and its pixels. -/
namespace Go.Gs
open Go.Proofs

def inR (n : Int) : Prop := -4096 ≤ n ∧ n ≤ 4096
instance (n : Int) : Decidable (inR n) := inferInstanceAs (Decidable (_ ∧ _))
def bothA (p : Pnt) (t : AF) : AF := (compR p.t t).1
def backA (p : Pnt) (t : AF) : AF := (invR (bothA p t)).1
/-- The error of a brush. -/
def nbErr (p : Pnt) (t : AF) : Int :=
  if ¬ pntOK p then 16 else if p.k = 1 then 0 else if (compR p.t t).2 ≠ 0 then (compR p.t t).2 else (invR (bothA p t)).2
def midQ (n : Int) : Rat := ((256 * n + 128 : Int) : Rat)
def uQ (p : Pnt) (t : AF) (x y : Int) : Rat := applX (backA p t) (midQ x) (midQ y)
def vQ (p : Pnt) (t : AF) (x y : Int) : Rat := applY (backA p t) (midQ x) (midQ y)
/-- The color at a point of the paint's own plane. -/
def srcP (p : Pnt) (u v : Rat) : Pix :=
  if p.k = 2 then preP (spCol p.st p.sp (linP p.p0 p.p1 u v)) else if p.k = 3 then preP (spCol p.st p.sp (radP p.p0 p.r u v))
  else smp p.im p.sm p.sp (u / ((256 : Int) : Rat)) (v / ((256 : Int) : Rat))
/-- The pixel of a brush that is. -/
def atP (p : Pnt) (t : AF) (x y : Int) : Pix :=
  if ¬ (inR x ∧ inR y) then zeroP else if p.k = 1 then preP p.c else srcP p (uQ p t x y) (vQ p t x y)
def P8p (p : Pnt) : Prop := P8 p.c ∧ (∀ s ∈ p.st, P8 s.c) ∧ ∀ q ∈ p.im.px, P8 q

theorem invR_le {t : AF} (h : (invR t).2 = 0) : (invR t).1.le 8 := by
  unfold invR at *
  split at h
  · exact absurd h (by decide)
  split at h
  · exact absurd h (by decide)
  split at h
  · exact absurd h (by decide)
  · rename_i h1 h2 h3
    rw [if_neg h1, if_neg h2, if_neg h3]
    have := ok_le (t := invA t) (by rw [invA_nrm]; exact Decidable.not_not.1 h3)
    rwa [invA_nrm] at this
theorem compR_le {p t : AF} (h : (compR p t).2 = 0) : (compR p t).1.le 8 := by
  unfold compR at *
  split at h
  · exact absurd h (by decide)
  split at h
  · exact absurd h (by decide)
  split at h
  · exact absurd h (by decide)
  split at h
  · exact absurd h (by decide)
  · rename_i h1 h2 h3 h4
    rw [if_neg h1, if_neg h2, if_neg h3, if_neg h4]
    exact beh_ok_le (Decidable.not_not.1 h4)
theorem compR_cases (p t : AF) : compR p t = (zeroAF, 5) ∨ (compR p t).2 = 0 := by
  unfold compR
  split
  · exact .inl rfl
  split
  · exact .inl rfl
  split
  · exact .inl rfl
  split
  · exact .inl rfl
  · exact .inr rfl
theorem compR_le100 (p t : AF) : (compR p t).1.le 100 := by
  rcases compR_cases p t with h | h
  · rw [h]; exact zeroAF_le _
  · exact (compR_le h).up (by decide)

theorem mid_r64 {n : Int} (h : inR n) : R64 (256 * n + 128) := by unfold inR at h; unfold R64; omega
theorem appl_len {t : AF} (ht : t.le 8) {x y : Rat} (hx : qlen x ≤ 2) (hy : qlen y ≤ 2) : qlen (applX t x y) ≤ 40 ∧ qlen (applY t x y) ≤ 40 := by
  obtain ⟨ha, hb, hc, hd, he, hf⟩ := ht
  have l1 := qlen_v t.a
  have l2 := qlen_v t.b
  have l3 := qlen_v t.c
  have l4 := qlen_v t.d
  have l5 := qlen_v t.e
  have l6 := qlen_v t.f
  have m1 := qlen_mul t.a.v x
  have m2 := qlen_mul t.b.v x
  have m3 := qlen_mul t.c.v y
  have m4 := qlen_mul t.d.v y
  have n1 := qlen_add (t.a.v * x) (t.c.v * y)
  have n2 := qlen_add (t.b.v * x) (t.d.v * y)
  have n3 := qlen_add (t.a.v * x + t.c.v * y) t.e.v
  have n4 := qlen_add (t.b.v * x + t.d.v * y) t.f.v
  unfold applX applY
  omega

theorem c_within (n : Int) : CallsG Tryz.prog 82 [i64 n] [] (pr (inR n)) [] := by
  refine calls_to tok mix Tryz.func82 rfl rfl rfl ?_
  refine Br.mk (fun h1 => ?_) (fun h1 => LE_false (fun h => h1 h.1))
  exact LE_pr ⟨fun h => ⟨h1, h⟩, fun h => h.2⟩
theorem c_within' (n : Int) : CallsG Tryz.prog 144 [i64 n] [] (pr (inR n)) [] := by
  refine calls_to tok mix Tryz.func144 rfl rfl rfl ?_
  refine Br.mk (fun h1 => ?_) (fun h1 => LE_false (fun h => h1 h.1))
  exact LE_pr ⟨fun h => ⟨h1, h⟩, fun h => h.2⟩
theorem c_middle' (n : Int) (h : inR n) : CallsG Tryz.prog 149 [i64 n] [] (.agg (brE (ofQ (midQ n)))) [] := by
  refine calls_to tok mix Tryz.func149 rfl rfl rfl ?_
  have h' := h
  unfold inR at h'
  refine Ar.fit (by omega) ?_
  refine Ar.fit (by omega) ?_
  refine CallV.to _ (r3_fromInt (256 * n + 128) (mid_r64 h)) rfl ?_
  exact .refl

set_option maxRecDepth 100000 in
set_option maxHeartbeats 4000000 in
theorem c_nb' (p : Pnt) (t : AF) (hp : p.t.le 12) (ht : t.le 12) : CallsG Tryz.prog 143 [.agg (pntE p), .agg (afE t)] [] (i64 (nbErr p t)) [] := by
  refine calls_to tok mix Tryz.func143 rfl rfl rfl ?_
  refine CallV.to _ (c_pntvalid' p (hp.up (by decide))) rfl ?_
  refine Br.mk (fun h1 => LE_int (by rw [nbErr, if_pos h1])) (fun h1 => ?_)
  refine Br.mk (fun h2 => LE_int (by rw [nbErr, if_neg h1, if_pos h2])) (fun h2 => ?_)
  refine ⟨AF, afE, [p.t, t], rfl, Ob.mk ⟨rfl, by decide, by decide, by decide, fun x _ => ⟨rfl, rfl, rfl⟩⟩ ?_⟩
  refine CallV.see 2 _ (r12_comp p.t t (hp.up (by decide)) (ht.up (by decide))) rfl rfl rfl ?_
  refine Br.mk (fun h3 => LE_int (by rw [nbErr, if_neg h1, if_neg h2, if_pos h3])) (fun h3 => ?_)
  refine CallV.to _ (r12_invert (compR p.t t).1 (compR_le100 _ _)) rfl ?_
  exact LE_int (by rw [nbErr, if_neg h1, if_neg h2, if_neg h3]; rfl)

theorem nb_ok {p : Pnt} {t : AF} (h : nbErr p t = 0) : pntOK p ∧ (p.k = 1 ∨ (p.k ≠ 1 ∧ (compR p.t t).2 = 0 ∧ (invR (bothA p t)).2 = 0 ∧ (backA p t).le 8)) := by
  unfold nbErr at h
  split at h
  · exact absurd h (by decide)
  rename_i h1
  refine ⟨Decidable.not_not.1 h1, ?_⟩
  split at h
  · exact .inl ‹_›
  rename_i h2
  split at h
  · exact absurd h ‹_›
  rename_i h3
  exact .inr ⟨h2, Decidable.not_not.1 h3, h, invR_le h⟩
theorem mid_len {n : Int} (h : inR n) : qlen (midQ n) ≤ 2 := qlen_i64 (mid_r64 h)
theorem uv_len {p : Pnt} {t : AF} {x y : Int} (h : (backA p t).le 8) (hx : inR x) (hy : inR y) : qlen (uQ p t x y) ≤ 40 ∧ qlen (vQ p t x y) ≤ 40 := appl_len h (mid_len hx) (mid_len hy)
theorem int256 : (((256 : Int) : Rat)) ≠ 0 := int_ne (by decide)
theorem div_len {x : Rat} (h : qlen x ≤ 40) : qlen (x / ((256 : Int) : Rat)) ≤ 42 := by
  have h1 := qlen_div x _ int256
  have h2 := qlen_i64 (n := 256) (by decide)
  omega

set_option maxRecDepth 100000 in
set_option maxHeartbeats 8000000 in
theorem c_at' (p : Pnt) (t : AF) (x y : Int) (hp : p.t.le 12) (ht : t.le 12) (h8 : P8p p) : CallsG Tryz.prog 92 [.agg (pntE p), .agg (afE t), i64 x, i64 y] []
    (.tup [.agg (pixE (if nbErr p t = 0 then atP p t x y else zeroP)), pr (nbErr p t = 0)]) [] := by
  refine calls_to tok mix Tryz.func92 rfl rfl rfl ?_
  refine CallV.to _ (c_nb' p t hp ht) rfl ?_
  refine Br.mk (fun h1 => ?_) (fun h1 => ?_)
  · rw [if_neg h1]
    exact LE_tup2 .refl (LE_false h1)
  have h1 := Decidable.not_not.1 h1
  rw [if_pos h1]
  have fin : ∀ {σ : SV} {q : Pix}, atP p t x y = q → LE σ (.agg (pixE q)) → LE (.tup [σ, bl true]) (.tup [.agg (pixE (atP p t x y)), pr (nbErr p t = 0)]) := fun e h => LE_tup2 (e ▸ h) (LE_true h1)
  obtain ⟨hok, hrest⟩ := nb_ok h1
  refine CallV.to _ (c_within' x) rfl ?_
  refine Br.mk (fun h2 => fin (q := zeroP) (by rw [atP, if_pos (fun k => h2 k.1)]) .refl) (fun h2 => ?_)
  refine CallV.to _ (c_within' y) rfl ?_
  refine Br.mk (fun h3 => fin (q := zeroP) (by rw [atP, if_pos (fun k => h3 k.2)]) .refl) (fun h3 => ?_)
  have h2 := Decidable.not_not.1 h2
  have h3 := Decidable.not_not.1 h3
  have hin : ¬ ¬ (inR x ∧ inR y) := fun k => k ⟨h2, h3⟩
  refine Br.mk (fun k1 => ?_) (fun k1 => ?_)
  · refine CallV.to _ (c_premul' p.c h8.1) rfl ?_
    exact fin (q := preP p.c) (by rw [atP, if_neg hin, if_pos k1]) .refl
  obtain ⟨_, hc, hi, hb⟩ := hrest.resolve_left k1
  obtain ⟨lu, lv⟩ := uv_len (x := x) (y := y) hb h2 h3
  refine ⟨AF, afE, [p.t, t], rfl, Ob.mk ⟨rfl, by decide, by decide, by decide, fun x _ => ⟨rfl, rfl, rfl⟩⟩ ?_⟩
  refine CallV.see 3 _ (r12_comp p.t t (hp.up (by decide)) (ht.up (by decide))) rfl rfl rfl ?_
  refine CallV.to _ (r12_invert (compR p.t t).1 (compR_le100 _ _)) rfl ?_
  refine Dr.mk (by decide +kernel) ?_
  refine CallV.to _ (c_middle' x h2) rfl ?_
  refine CallV.to _ (c_middle' y h3) rfl ?_
  have hx := r12_exact (backA p t) (ofQ (midQ x)) (ofQ (midQ y)) (hb.up (by decide)) (by rw [ofQ_len]; have := mid_len h2; omega) (by rw [ofQ_len]; have := mid_len h3; omega)
  rw [ofQ_v, ofQ_v] at hx
  refine CallV.to _ hx rfl ?_
  refine Br.mk (fun k2 => ?_) (fun k2 => ?_)
  · refine Dr.mk (by decide +kernel) ?_
    refine CallV.to _ (c_linpos' p.p0 p.p1 (uQ p t x y) (vQ p t x y) (by omega) (by omega)) rfl ?_
    refine CallV.to _ (c_spcol' p.st p.sp (linP p.p0 p.p1 (uQ p t x y) (vQ p t x y)) h8.2.1) rfl ?_
    refine CallV.to _ (c_premul' (spCol p.st p.sp (linP p.p0 p.p1 (uQ p t x y) (vQ p t x y))) (spCol_8 h8.2.1)) rfl ?_
    exact fin (by rw [atP, if_neg hin, if_neg k1, srcP, if_pos k2]) .refl
  refine Br.mk (fun k3 => ?_) (fun k3 => ?_)
  · refine Dr.mk (by decide +kernel) ?_
    refine CallV.to _ (c_radpos' p.p0 p.r (uQ p t x y) (vQ p t x y) (by omega) (by omega)) rfl ?_
    refine CallV.to _ (c_spcol' p.st p.sp (radP p.p0 p.r (uQ p t x y) (vQ p t x y)) h8.2.1) rfl ?_
    refine CallV.to _ (c_premul' (spCol p.st p.sp (radP p.p0 p.r (uQ p t x y) (vQ p t x y))) (spCol_8 h8.2.1)) rfl ?_
    exact fin (by rw [atP, if_neg hin, if_neg k1, srcP, if_neg k2, if_pos k3]) .refl
  have l256 := qlen_i64 (n := 256) (by decide)
  refine Dr.mk (by decide +kernel) ?_
  refine CallV.to _ (r3_fromInt 256 (by decide)) rfl ?_
  refine CallV.to _ (r3_quoQ (uQ p t x y) ((256 : Int) : Rat) (by omega) (by omega) int256) rfl ?_
  refine Dr.mk (by decide +kernel) ?_
  refine CallV.to _ (r3_fromInt 256 (by decide)) rfl ?_
  refine CallV.to _ (r3_quoQ (vQ p t x y) ((256 : Int) : Rat) (by omega) (by omega) int256) rfl ?_
  have hs := c_sample' p.im p.sm p.sp (ofQ (uQ p t x y / ((256 : Int) : Rat))) (ofQ (vQ p t x y / ((256 : Int) : Rat))) h8.2.2 (by rw [ofQ_len]; have := div_len lu; omega) (by rw [ofQ_len]; have := div_len lv; omega)
  rw [ofQ_v, ofQ_v] at hs
  refine CallV.to _ hs rfl ?_
  exact fin (by rw [atP, if_neg hin, if_neg k1, srcP, if_neg k2, if_neg k3]) .refl

end Go.Gs
/- The reference's fills with a paint. -/
namespace Go.Gs
open Go.Proofs

/-- What a paint shows at a pixel; nothing where it has no brush. -/
def lookP (p : Pnt) (t : AF) (x y : Int) : Pix := if nbErr p t = 0 then atP p t x y else zeroP
def withB (f : Int → Int → Pix) (d : Bm) (m : Mk) (mode : Int) : Bm × Int :=
  if ¬ d.ok then (zeroB, 15) else if ¬ m.ok then (zeroB, 14) else if ¬ modeOK mode then (zeroB, 2) else (⟨d.b, grid d.b fun x y => coverP mode (f x y) (d.at_ x y) (m.at_ x y)⟩, 0)
def brushB (f : Int → Int → Pix) (r : Rc) : Bm × Int :=
  if ¬ r.ok then (zeroB, 6) else if 65536 < r.area then (zeroB, 5) else (⟨r.canon, grid r.canon f⟩, 0)
theorem place_px {s : Bm} (h : s.ok) {x y n : Int} (hh : s.b.has x y) (e : s.b.idx x y = n) {q : Pix} (hq : s.px[n.toNat]? = some q) : q = s.at_ x y := by
  subst e
  exact Option.some.inj (hq.symm.trans (Bm.get h hh))

set_option maxRecDepth 100000 in
theorem r_look (p : Pnt) (t : AF) (x y : Int) (hp : p.t.le 12) (ht : t.le 12) (h8 : P8p p) : CallsG Tryz.prog 50 [.agg (pntE p), .agg (afE t), i64 x, i64 y] [] (.agg (pixE (lookP p t x y))) [] := by
  refine calls_to tok mix Tryz.func50 rfl rfl rfl ?_
  refine CallV.to _ (c_at' p t x y hp ht h8) rfl ?_
  exact .refl
theorem smp_8 {m : Img} {look md : Int} {x y : Rat} (h8 : ∀ q ∈ m.px, P8 q) : P8 (smp m look md x y) := by
  unfold smp
  by_cases h : (look = 1 ∨ look = 2) ∧ imgOK m ∧ nearQ x ∧ nearQ y
  · rw [if_pos h]
    by_cases e : look = 2
    · rw [if_pos e]
      have hf : 0 ≤ fineQ x % 256 ∧ fineQ x % 256 ≤ 255 := by omega
      have hg : 0 ≤ fineQ y % 256 ∧ fineQ y % 256 ≤ 255 := by omega
      have h8n : ∀ n, P8 (px4 m md (fineQ x / 256) (fineQ y / 256) n) := fun n => texelI_P8 h8 _ _ _
      exact ⟨bR_range (acc4 hf hg fun n => (h8n n).1), bR_range (acc4 hf hg fun n => (h8n n).2.1), bR_range (acc4 hf hg fun n => (h8n n).2.2.1), bR_range (acc4 hf hg fun n => (h8n n).2.2.2)⟩
    · rw [if_neg e]; exact texelI_P8 h8 _ _ _
  · rw [if_neg h]; exact zero_8
theorem atP_8 {p : Pnt} {t : AF} {x y : Int} (h8 : P8p p) : P8 (atP p t x y) := by
  unfold atP srcP
  split
  · exact zero_8
  split
  · exact preP_8 h8.1
  split
  · exact preP_8 (spCol_8 h8.2.1)
  split
  · exact preP_8 (spCol_8 h8.2.1)
  · exact smp_8 h8.2.2
theorem lookP_8 {p : Pnt} (t : AF) (h8 : P8p p) (x y : Int) : P8 (lookP p t x y) := by
  unfold lookP
  split
  · exact atP_8 h8
  · exact zero_8

set_option maxRecDepth 100000 in
set_option maxHeartbeats 4000000 in
theorem r_withBrush (d : Bm) (m : Mk) (p : Pnt) (t : AF) (mode : Int) (d8 : B8 d) (m8 : ∀ c ∈ m.cv, R8 c) (hp : p.t.le 12) (ht : t.le 12) (h8 : P8p p) :
    CallsG Tryz.prog 16 [.agg (bmE d), .agg (mkE m), .agg (pntE p), .agg (afE t), i64 mode] [] (bmR (withB (lookP p t) d m mode)) [(0, .arr 57 pixE 4 (withB (lookP p t) d m mode).1.px)] := by
  generalize hq : withB (lookP p t) d m mode = q
  refine calls_own tok mix Tryz.func16 rfl rfl rfl ?_
  refine CallV.to _ (r_bvalid d) rfl ?_
  refine Br.mk (fun h1 => ⟨none, bad_bm (q := q) (e := 15) (by rw [← hq, withB, if_pos h1])⟩) (fun h1 => ?_)
  refine CallV.to _ (r_mvalid m) rfl ?_
  refine Br.mk (fun h2 => ⟨none, bad_bm (q := q) (e := 14) (by rw [← hq, withB, if_neg h1, if_pos h2])⟩) (fun h2 => ?_)
  refine CallV.to _ (r_mode mode) rfl ?_
  refine Br.mk (fun h3 => ⟨none, bad_bm (q := q) (e := 2) (by rw [← hq, withB, if_neg h1, if_neg h2, if_pos h3])⟩) (fun h3 => ?_)
  obtain ⟨g, hg⟩ : ∃ g : Int → Int → Pix, g = (fun x y => coverP mode (lookP p t x y) (d.at_ x y) (m.at_ x y)) := ⟨_, rfl⟩
  have e : q = (⟨d.b, grid d.b g⟩, 0) := by rw [← hq, withB, if_neg h1, if_neg h2, if_neg h3, hg]
  have hcov : ∀ x y : Int, CallsG Tryz.prog 49 [i64 mode, .agg (pixE (lookP p t x y)), .agg (pixE (d.at_ x y)), u8 (m.at_ x y)] [] (.agg (pixE (g x y))) [] := fun x y => hg ▸ r_cover mode (lookP p t x y) (d.at_ x y) (m.at_ x y) (lookP_8 t h8 x y) (Bm.at_8 d8 x y) (Mk.at_8 m8 x y)
  have hd := Decidable.not_not.1 h1
  have hm := Decidable.not_not.1 h2
  have hc := hd.1
  have hA := hd.2.1
  have hl := hd.2.2.1
  clear hg hq
  subst e
  have hsd := Rc.sides hc
  unfold inRc at hsd
  have ew : d.b.w = d.b.x1 - d.b.x0 := rfl
  have eh : d.b.h = d.b.y1 - d.b.y0 := rfl
  refine ⟨Nat, fun i => ⟨[(14, i64 (d.b.y0 + (i : Int))), (13, i64 ((i * d.b.w.toNat : Nat) : Int)), (4, i64 mode), (5, .loc 0 0), (6, .loc 1 0), (7, .loc 2 0), (8, .loc 3 0), (10, .loc 4 0), (12, .loc 5 0)], [(6, .arr 57 pixE 4 (gridN d.b (g) (i * d.b.w.toNat))), (5, .box 26 [i64 d.b.x0, i64 d.b.y0, i64 d.b.x1, i64 d.b.y1, .own 6]), (4, .box 26 [i64 0, i64 0, i64 0, i64 0, .val (.slice none 0 0)]), (3, .box 43 (afE t)), (2, .box 45 (pntE p)), (1, .box 29 (mkE m)), (0, .box 26 (bmE d))], 7, 75, 0⟩,
    fun i => (i : Int) ≤ d.b.h, fun i => (d.b.h - i).toNat, 0, ?_, ?_, ?_⟩
  · show (0 : Int) ≤ d.b.h; omega
  · exact sub_of [(0, some 0), (1, some 1), (2, some 2), (3, some 3), (4, some 4), (5, some 5), (6, none)] rfl rfl rfl ⟨congrArg (fun n => some (i64 n)) (show d.b.y0 = d.b.y0 + ((0 : Nat) : Int) by omega), congrArg (fun n => some (i64 n)) (show (0 : Int) = ((0 * d.b.w.toNat : Nat) : Int) by omega), rfl, rfl, rfl, rfl, rfl, rfl, rfl, trivial⟩ ⟨by rw [Nat.zero_mul]; rfl, rfl, rfl, rfl, rfl, rfl, rfl, trivial⟩
  rintro i hi
  have hi : (i : Int) ≤ d.b.h := hi
  refine Br.mk (fun g9 => ?_) (fun g9 => ?_)
  · have g9 : (i : Int) < d.b.h := by omega
    refine ⟨Nat, fun j => ⟨[(15, i64 (d.b.x0 + (j : Int))), (14, i64 (d.b.y0 + (i : Int))), (13, i64 ((i * d.b.w.toNat + j : Nat) : Int)), (4, i64 mode), (5, .loc 0 0), (6, .loc 1 0), (7, .loc 2 0), (8, .loc 3 0), (10, .loc 4 0), (12, .loc 5 0)], [(6, .arr 57 pixE 4 (gridN d.b (g) (i * d.b.w.toNat + j))), (5, .box 26 [i64 d.b.x0, i64 d.b.y0, i64 d.b.x1, i64 d.b.y1, .own 6]), (4, .box 26 [i64 0, i64 0, i64 0, i64 0, .val (.slice none 0 0)]), (3, .box 43 (afE t)), (2, .box 45 (pntE p)), (1, .box 29 (mkE m)), (0, .box 26 (bmE d))], 7, 75, 0⟩,
      fun j => (j : Int) ≤ d.b.w, fun j => (d.b.w - j).toNat, 0, ?_, ?_, ?_⟩
    · show (0 : Int) ≤ d.b.w; omega
    · exact sub_of [(0, some 0), (1, some 1), (2, some 2), (3, some 3), (4, some 4), (5, some 5), (6, some 6)] rfl rfl rfl ⟨congrArg (fun n => some (i64 n)) (show d.b.x0 = d.b.x0 + ((0 : Nat) : Int) by omega), rfl, rfl, rfl, rfl, rfl, rfl, rfl, rfl, rfl, trivial⟩ ⟨rfl, rfl, rfl, rfl, rfl, rfl, rfl, trivial⟩
    rintro j hj
    have hj : (j : Int) ≤ d.b.w := hj
    refine Br.mk (fun k1 => ?_) (fun k1 => ?_)
    · have k1 : (j : Int) < d.b.w := by omega
      have hpl := grid_place hc g9 k1
      have hij := hpl.2.1
      refine Dr.mk (by decide +kernel) ?_
      refine CallV.to _ (r_look p t (d.b.x0 + j) (d.b.y0 + i) hp ht h8) rfl ?_
      refine Ob.mk (by omega) ?_
      intro q hq
      obtain rfl := place_px hd hpl.1 hpl.2.2 hq
      refine CallV.to _ (r_level m hm (d.b.x0 + j) (d.b.y0 + i)) rfl ?_
      refine CallV.to _ (hcov (d.b.x0 + j) (d.b.y0 + i)) rfl ?_
      refine ⟨Pix, pixE, [g (d.b.x0 + j) (d.b.y0 + i)], rfl, Ob.mk (gOne _) ?_⟩
      refine ⟨_, rfl, Ob.mk (gApp _ (by rw [gridN_len]; omega)) ?_⟩
      refine Ar.fit (by omega) ?_
      refine Ar.fit (by omega) ?_
      refine ⟨j + 1, (by show ((j + 1 : Nat) : Int) ≤ d.b.w; omega), sub_of [(0, some 0), (1, some 1), (2, some 2), (3, some 3), (4, some 4), (5, some 5), (6, some 8)] rfl rfl rfl
        ⟨congrArg (fun n => some (i64 n)) (show d.b.x0 + j + 1 = d.b.x0 + ((j + 1 : Nat) : Int) by omega), rfl, rfl, rfl, rfl, rfl, rfl, rfl, rfl, rfl, trivial⟩
        ⟨congrArg (fun l => some (Mem.arr 57 pixE 4 l)) (gridN_step k1), rfl, rfl, rfl, rfl, rfl, rfl, trivial⟩, (by dsimp only; omega)⟩
    · have hjw : j = d.b.w.toNat := by omega
      refine Ar.fit (by omega) ?_
      refine ⟨i + 1, (by show ((i + 1 : Nat) : Int) ≤ d.b.h; omega), sub_of [(0, some 0), (1, some 1), (2, some 2), (3, some 3), (4, some 4), (5, some 5), (6, some 6)] rfl rfl rfl
        ⟨congrArg (fun n => some (i64 n)) (show d.b.y0 + i + 1 = d.b.y0 + ((i + 1 : Nat) : Int) by omega), congrArg (fun n : Nat => some (i64 n)) (by rw [hjw, Nat.add_mul, Nat.one_mul]), rfl, rfl, rfl, rfl, rfl, rfl, rfl, trivial⟩
        ⟨congrArg (fun l => some (Mem.arr 57 pixE 4 l)) (by rw [hjw, gridN_row]), rfl, rfl, rfl, rfl, rfl, rfl, trivial⟩, (by dsimp only; omega)⟩
  · have hih : i = d.b.h.toNat := by omega
    exact ⟨some 6, take_tup (.cons (take_agg (.cons (take_int rfl) (.cons (take_int rfl) (.cons (take_int rfl) (.cons (take_int rfl) (.cons (.own _ rfl) .nil)))))) (.cons (take_int rfl) .nil)), by rw [hih, ← gridN_full hc]; rfl, fun _ _ => rfl⟩

set_option maxRecDepth 100000 in
set_option maxHeartbeats 4000000 in
theorem r_brushB (r : Rc) (p : Pnt) (t : AF) (hp : p.t.le 12) (ht : t.le 12) (h8 : P8p p) :
    CallsG Tryz.prog 22 [.agg (rcE r), .agg (pntE p), .agg (afE t)] [] (bmR (brushB (lookP p t) r)) [(0, .arr 57 pixE 4 (brushB (lookP p t) r).1.px)] := by
  generalize hq : brushB (lookP p t) r = q
  refine calls_own tok mix Tryz.func22 rfl rfl rfl ?_
  refine CallV.to _ (r_valid r) rfl ?_
  refine Br.mk (fun h1 => ⟨none, bad_bm (q := q) (e := 6) (by rw [← hq, brushB, if_pos h1])⟩) (fun h1 => ?_)
  refine CallV.to _ (r_area r) rfl ?_
  refine Br.mk (fun h2 => ⟨none, bad_bm (q := q) (e := 5) (by rw [← hq, brushB, if_neg h1, if_pos h2])⟩) (fun h2 => ?_)
  have e : q = (⟨r.canon, grid r.canon (lookP p t)⟩, 0) := by rw [← hq, brushB, if_neg h1, if_neg h2]
  have hA : r.area ≤ 65536 := by omega
  have pc := r_canon r
  have hc := r.canon_canon
  have eA : r.canon.area = r.area := by unfold Rc.area; rw [hc]
  rw [← eA] at hA
  clear eA hq
  subst e
  generalize r.canon = c at *
  have hsd := Rc.sides hc
  unfold inRc at hsd
  have ew : c.w = c.x1 - c.x0 := rfl
  have eh : c.h = c.y1 - c.y0 := rfl
  refine CallV.to _ pc rfl ?_
  refine ⟨Nat, fun i => ⟨[(9, i64 (c.y0 + (i : Int))), (3, .loc 0 0), (4, .loc 1 0), (5, .loc 2 0), (6, .loc 3 0), (8, .loc 4 0)], [(5, .arr 57 pixE 4 (gridN c ((lookP p t)) (i * c.w.toNat))), (4, .box 26 [i64 c.x0, i64 c.y0, i64 c.x1, i64 c.y1, .own 5]), (3, .box 26 [i64 0, i64 0, i64 0, i64 0, .val (.slice none 0 0)]), (2, .box 43 (afE t)), (1, .box 45 (pntE p)), (0, .box 23 (rcE r))], 6, 53, 0⟩,
    fun i => (i : Int) ≤ c.h, fun i => (c.h - i).toNat, 0, ?_, ?_, ?_⟩
  · show (0 : Int) ≤ c.h; omega
  · exact sub_of [(0, some 0), (1, some 1), (2, some 2), (3, some 3), (4, some 4), (5, none)] rfl rfl rfl ⟨congrArg (fun n => some (i64 n)) (show c.y0 = c.y0 + ((0 : Nat) : Int) by omega), rfl, rfl, rfl, rfl, rfl, trivial⟩ ⟨by rw [Nat.zero_mul]; rfl, rfl, rfl, rfl, rfl, rfl, trivial⟩
  rintro i hi
  have hi : (i : Int) ≤ c.h := hi
  refine Br.mk (fun g9 => ?_) (fun g9 => ?_)
  · have g9 : (i : Int) < c.h := by omega
    refine ⟨Nat, fun j => ⟨[(10, i64 (c.x0 + (j : Int))), (9, i64 (c.y0 + (i : Int))), (3, .loc 0 0), (4, .loc 1 0), (5, .loc 2 0), (6, .loc 3 0), (8, .loc 4 0)], [(5, .arr 57 pixE 4 (gridN c ((lookP p t)) (i * c.w.toNat + j))), (4, .box 26 [i64 c.x0, i64 c.y0, i64 c.x1, i64 c.y1, .own 5]), (3, .box 26 [i64 0, i64 0, i64 0, i64 0, .val (.slice none 0 0)]), (2, .box 43 (afE t)), (1, .box 45 (pntE p)), (0, .box 23 (rcE r))], 6, 53, 0⟩,
      fun j => (j : Int) ≤ c.w, fun j => (c.w - j).toNat, 0, ?_, ?_, ?_⟩
    · show (0 : Int) ≤ c.w; omega
    · exact sub_of [(0, some 0), (1, some 1), (2, some 2), (3, some 3), (4, some 4), (5, some 5)] rfl rfl rfl ⟨congrArg (fun n => some (i64 n)) (show c.x0 = c.x0 + ((0 : Nat) : Int) by omega), rfl, rfl, rfl, rfl, rfl, rfl, trivial⟩ ⟨rfl, rfl, rfl, rfl, rfl, rfl, trivial⟩
    rintro j hj
    have hj : (j : Int) ≤ c.w := hj
    refine Br.mk (fun k1 => ?_) (fun k1 => ?_)
    · have k1 : (j : Int) < c.w := by omega
      have hpl := grid_place hc g9 k1
      have hij := hpl.2.1
      refine Dr.mk (by decide +kernel) ?_
      refine CallV.to _ (r_look p t (c.x0 + j) (c.y0 + i) hp ht h8) rfl ?_
      refine ⟨Pix, pixE, [(lookP p t) (c.x0 + j) (c.y0 + i)], rfl, Ob.mk (gOne _) ?_⟩
      refine ⟨_, rfl, Ob.mk (gApp _ (by rw [gridN_len]; omega)) ?_⟩
      refine Ar.fit (by omega) ?_
      refine ⟨j + 1, (by show ((j + 1 : Nat) : Int) ≤ c.w; omega), sub_of [(0, some 0), (1, some 1), (2, some 2), (3, some 3), (4, some 4), (5, some 7)] rfl rfl rfl
        ⟨congrArg (fun n => some (i64 n)) (show c.x0 + j + 1 = c.x0 + ((j + 1 : Nat) : Int) by omega), rfl, rfl, rfl, rfl, rfl, rfl, trivial⟩
        ⟨congrArg (fun l => some (Mem.arr 57 pixE 4 l)) (gridN_step k1), rfl, rfl, rfl, rfl, rfl, trivial⟩, (by dsimp only; omega)⟩
    · have hjw : j = c.w.toNat := by omega
      refine Ar.fit (by omega) ?_
      refine ⟨i + 1, (by show ((i + 1 : Nat) : Int) ≤ c.h; omega), sub_of [(0, some 0), (1, some 1), (2, some 2), (3, some 3), (4, some 4), (5, some 5)] rfl rfl rfl
        ⟨congrArg (fun n => some (i64 n)) (show c.y0 + i + 1 = c.y0 + ((i + 1 : Nat) : Int) by omega), rfl, rfl, rfl, rfl, rfl, trivial⟩
        ⟨congrArg (fun l => some (Mem.arr 57 pixE 4 l)) (by rw [hjw, gridN_row]), rfl, rfl, rfl, rfl, rfl, trivial⟩, (by dsimp only; omega)⟩
  · have hih : i = c.h.toNat := by omega
    exact ⟨some 5, take_tup (.cons (take_agg (.cons (take_int rfl) (.cons (take_int rfl) (.cons (take_int rfl) (.cons (take_int rfl) (.cons (.own _ rfl) .nil)))))) (.cons (take_int rfl) .nil)), by rw [hih, ← gridN_full hc]; rfl, fun _ _ => rfl⟩

end Go.Gs
/- Sources of color, the program's. -/
namespace Go.Gs
open Go.Proofs

def src1 (p : Pnt) : SV := .ifc 117 (.agg (pixE (preP p.c)))
def src2 (p : Pnt) : SV := .ifc 154 (.agg [.sl stopE p.st, i64 p.sp, .dfn 127 [.dptr (pntE p)]])
def src3 (p : Pnt) : SV := .ifc 154 (.agg [.sl stopE p.st, i64 p.sp, .dfn 129 [.dptr (pntE p)]])
def src4 (p : Pnt) : SV := .ifc 158 (.agg [i64 p.im.w, i64 p.im.h, .sl pixE p.im.px, i64 p.sm, i64 p.sp])

set_option maxRecDepth 100000 in
set_option maxHeartbeats 4000000 in
theorem c_src1 (p : Pnt) (h : p.k = 1) (hs : p.st.length ≤ 40) (h8 : P8 p.c) : CallsG Tryz.prog 87 [.agg (pntE p)] [] (src1 p) [] := by
  refine calls_data 2 tok mix Tryz.func87 rfl rfl rfl ?_
  refine Dr.dyn (Ob.mk (by decide +kernel) ?_)
  refine CallV.fresh _ _ (c_stclone p.st (by omega)) rfl (fun _ _ => rfl) (.inr (fun _ _ => rfl)) ?_
  refine Ob.mk (by kernel_rfl) ?_
  refine Br.mk (fun k => by omega) (fun _ => ?_)
  refine Br.mk (fun k => by omega) (fun _ => ?_)
  refine Br.mk (fun k => by omega) (fun _ => ?_)
  refine CallV.to _ (c_premul p.c h8) rfl ?_
  exact .refl

set_option maxRecDepth 100000 in
set_option maxHeartbeats 4000000 in
theorem c_src2 (p : Pnt) (h : p.k = 2) (hs : p.st.length ≤ 40) : CallsG Tryz.prog 87 [.agg (pntE p)] [] (src2 p) [] := by
  refine calls_data 2 tok mix Tryz.func87 rfl rfl rfl ?_
  refine Dr.dyn (Ob.mk (by decide +kernel) ?_)
  refine CallV.fresh _ _ (c_stclone p.st (by omega)) rfl (fun _ _ => rfl) (.inr (fun _ _ => rfl)) ?_
  refine Ob.mk (by kernel_rfl) ?_
  refine Br.mk (fun k => ?_) (fun k => absurd h k)
  exact .refl

set_option maxRecDepth 100000 in
set_option maxHeartbeats 4000000 in
theorem c_src3 (p : Pnt) (h : p.k = 3) (hs : p.st.length ≤ 40) : CallsG Tryz.prog 87 [.agg (pntE p)] [] (src3 p) [] := by
  refine calls_data 2 tok mix Tryz.func87 rfl rfl rfl ?_
  refine Dr.dyn (Ob.mk (by decide +kernel) ?_)
  refine CallV.fresh _ _ (c_stclone p.st (by omega)) rfl (fun _ _ => rfl) (.inr (fun _ _ => rfl)) ?_
  refine Ob.mk (by kernel_rfl) ?_
  refine Br.mk (fun k => by omega) (fun _ => ?_)
  refine Br.mk (fun k => ?_) (fun k => absurd h k)
  exact .refl

set_option maxRecDepth 100000 in
set_option maxHeartbeats 4000000 in
theorem c_src4 (p : Pnt) (h : p.k = 4) (hs : p.st.length ≤ 40) (hm : p.im.px.length ≤ 300) : CallsG Tryz.prog 87 [.agg (pntE p)] [] (src4 p) [] := by
  refine calls_data 2 tok mix Tryz.func87 rfl rfl rfl ?_
  refine Dr.dyn (Ob.mk (by decide +kernel) ?_)
  refine CallV.fresh _ _ (c_stclone p.st (by omega)) rfl (fun _ _ => rfl) (.inr (fun _ _ => rfl)) ?_
  refine Ob.mk (by kernel_rfl) ?_
  refine Br.mk (fun k => by omega) (fun _ => ?_)
  refine Br.mk (fun k => by omega) (fun _ => ?_)
  refine Br.mk (fun k => ?_) (fun k => absurd h k)
  refine CallV.fresh _ _ (c_pxclone p.im.px (by omega)) rfl (fun _ _ => rfl) (.inr (fun _ _ => rfl)) ?_
  exact .refl

theorem c_far2 (p : Pnt) (x y : Rat) (hx : qlen x ≤ 40) (hy : qlen y ≤ 40) : CallsG Tryz.prog 127 [.agg (brE (ofQ x)), .agg (brE (ofQ y)), .dptr (pntE p)] [] (i64 (linP p.p0 p.p1 x y)) [] := by
  refine calls_to tok mix Tryz.func127 rfl rfl rfl ?_
  refine CallV.to _ (c_linpos p.p0 p.p1 x y (by omega) (by omega)) rfl ?_
  exact .refl
theorem c_far3 (p : Pnt) (x y : Rat) (hx : qlen x ≤ 40) (hy : qlen y ≤ 40) : CallsG Tryz.prog 129 [.agg (brE (ofQ x)), .agg (brE (ofQ y)), .dptr (pntE p)] [] (i64 (radP p.p0 p.r x y)) [] := by
  refine calls_to tok mix Tryz.func129 rfl rfl rfl ?_
  refine CallV.to _ (c_radpos p.p0 p.r x y (by omega) (by omega)) rfl ?_
  exact .refl

theorem c_at1 (q : Pix) (a b : List SV) (ha : a = [bl false, .val (.slice none 0 0), bl false, .val (.slice none 0 0)]) (hb : b = [bl false, .val (.slice none 0 0), bl false, .val (.slice none 0 0)]) : CallsG Tryz.prog 331 [.agg (pixE q), .agg a, .agg b] [] (.agg (pixE q)) [] := by
  subst ha hb
  refine calls_to tok mix Tryz.func331 rfl rfl rfl ?_
  exact .refl

set_option maxRecDepth 100000 in
theorem c_at2 (p : Pnt) (x y : Rat) (hk : p.k = 2) (hx : qlen x ≤ 40) (hy : qlen y ≤ 40) (h8 : P8p p) : CallsG Tryz.prog 332 [.agg [.sl stopE p.st, i64 p.sp, .dfn 127 [.dptr (pntE p)]], .agg (brE (ofQ x)), .agg (brE (ofQ y))] []
    (.agg (pixE (srcP p x y))) [] := by
  refine calls_to tok mix Tryz.func332 rfl rfl rfl ?_
  refine Dr.mk (by decide +kernel) ?_
  refine CallV.to _ (c_far2 p x y hx hy) rfl ?_
  refine CallV.to _ (c_spcol p.st p.sp (linP p.p0 p.p1 x y) h8.2.1) rfl ?_
  refine CallV.to _ (c_premul (spCol p.st p.sp (linP p.p0 p.p1 x y)) (spCol_8 h8.2.1)) rfl ?_
  rw [srcP, if_pos hk]
  exact .refl
set_option maxRecDepth 100000 in
theorem c_at3 (p : Pnt) (x y : Rat) (hk : p.k = 3) (hx : qlen x ≤ 40) (hy : qlen y ≤ 40) (h8 : P8p p) : CallsG Tryz.prog 332 [.agg [.sl stopE p.st, i64 p.sp, .dfn 129 [.dptr (pntE p)]], .agg (brE (ofQ x)), .agg (brE (ofQ y))] []
    (.agg (pixE (srcP p x y))) [] := by
  refine calls_to tok mix Tryz.func332 rfl rfl rfl ?_
  refine Dr.mk (by decide +kernel) ?_
  refine CallV.to _ (c_far3 p x y hx hy) rfl ?_
  refine CallV.to _ (c_spcol p.st p.sp (radP p.p0 p.r x y) h8.2.1) rfl ?_
  refine CallV.to _ (c_premul (spCol p.st p.sp (radP p.p0 p.r x y)) (spCol_8 h8.2.1)) rfl ?_
  rw [srcP, if_neg (by omega), if_pos hk]
  exact .refl

theorem unit_eq (x : Rat) : x * Rat.divInt 1 256 = x / ((256 : Int) : Rat) := by
  rw [Rat.div_def]
  congr 1
  decide +kernel

theorem unit_len : qlen (Rat.divInt 1 256) ≤ 2 := by decide +kernel
set_option maxRecDepth 100000 in
theorem c_at4 (p : Pnt) (x y : Rat) (hk : p.k = 4) (hx : qlen x ≤ 40) (hy : qlen y ≤ 40) (h8 : P8p p) (hl : p.im.px.length ≤ 300) : CallsG Tryz.prog 339 [.agg [i64 p.im.w, i64 p.im.h, .sl pixE p.im.px, i64 p.sm, i64 p.sp], .agg (brE (ofQ x)), .agg (brE (ofQ y))] []
    (.agg (pixE (srcP p x y))) [] := by
  have lu := unit_len
  have m1 := qlen_mul x (Rat.divInt 1 256)
  have m2 := qlen_mul y (Rat.divInt 1 256)
  refine calls_to tok mix Tryz.func339 rfl rfl rfl ?_
  refine CallV.to _ (q_fromints 1 256 (by decide) (by decide) (by decide)) rfl ?_
  refine Dr.mk (by decide +kernel) ?_
  refine CallV.to _ (q_mulQ x (Rat.divInt 1 256) (by omega) (by omega)) rfl ?_
  refine CallV.to _ (q_mulQ y (Rat.divInt 1 256) (by omega) (by omega)) rfl ?_
  have hs := c_sample p.im p.sm p.sp (ofQ (x * Rat.divInt 1 256)) (ofQ (y * Rat.divInt 1 256)) (by omega) h8.2.2 (by rw [ofQ_len]; omega) (by rw [ofQ_len]; omega)
  rw [ofQ_v, ofQ_v, unit_eq, unit_eq] at hs
  rw [← unit_eq, ← unit_eq] at hs
  refine CallV.to _ hs rfl ?_
  rw [unit_eq, unit_eq, srcP, if_neg (by omega), if_neg (by omega)]
  exact .refl

end Go.Gs
/- Brushes, the program's. -/
namespace Go.Gs
open Go.Proofs

def srcV (p : Pnt) : SV := if p.k = 1 then src1 p else if p.k = 2 then src2 p else if p.k = 3 then src3 p else src4 p
/-- The cells of a brush. -/
def brC (p : Pnt) (t : AF) : List SV := srcV p :: afE (if p.k = 1 then zeroAF else backA p t)
def nilP : SV := .val (.pointer none)

theorem c_middle (n : Int) (h : inR n) : CallsG Tryz.prog 83 [i64 n] [] (.agg (brE (ofQ (midQ n)))) [] := by
  refine calls_to tok mix Tryz.func83 rfl rfl rfl ?_
  have h' := h
  unfold inR at h'
  refine Ar.fit (by omega) ?_
  refine Ar.fit (by omega) ?_
  refine CallV.to _ (q_fromint (n * 256 + 128) (by unfold R64; omega)) rfl ?_
  rw [midQ, show 256 * n + 128 = n * 256 + 128 by omega]
  exact .refl

set_option maxRecDepth 100000 in
set_option maxHeartbeats 4000000 in
theorem c_nbbad (p : Pnt) (t : AF) (hp : p.t.le 12) (hl : p.im.px.length ≤ 300) (h : ¬ pntOK p) : CallsG Tryz.prog 46 [.agg (pntE p), .agg (afE t)] [] (.tup [nilP, i64 16]) [] := by
  refine calls_data 3 tok mix Tryz.func46 rfl rfl rfl ?_
  refine CallV.to _ (c_pntvalid p (hp.up (by decide)) (by omega)) rfl ?_
  refine Br.mk (fun _ => ?_) (fun k => absurd h k)
  exact .refl

set_option maxRecDepth 100000 in
set_option maxHeartbeats 4000000 in
theorem c_nb1 (p : Pnt) (t : AF) (hp : p.t.le 12) (hl : p.im.px.length ≤ 300) (h : pntOK p) (hk : p.k = 1) (hs : p.st.length ≤ 40) (h8 : P8p p) :
    CallsG Tryz.prog 46 [.agg (pntE p), .agg (afE t)] [] (.tup [.dptr (src1 p :: zero24), i64 0]) [] := by
  refine calls_data 3 tok mix Tryz.func46 rfl rfl rfl ?_
  refine CallV.to _ (c_pntvalid p (hp.up (by decide)) (by omega)) rfl ?_
  refine Br.mk (fun k => absurd h k) (fun _ => ?_)
  refine CallV.to _ (c_src1 p hk hs h8.1) rfl ?_
  exact .refl

set_option maxRecDepth 100000 in
set_option maxHeartbeats 8000000 in
theorem c_nb2 (p : Pnt) (t : AF) (hp : p.t.le 12) (ht : t.le 12) (hl : p.im.px.length ≤ 300) (h : pntOK p) (hk : p.k = 2) (hs : p.st.length ≤ 40) :
    CallsG Tryz.prog 46 [.agg (pntE p), .agg (afE t)] [] (.tup [if nbErr p t = 0 then .dptr (src2 p :: afE (backA p t)) else nilP, i64 (nbErr p t)]) [] := by
  have nk : ¬ p.k = 1 := by omega
  have bad : ∀ n, nbErr p t = n → ¬ n = 0 → LE (.tup [nilP, i64 n]) (.tup [if nbErr p t = 0 then .dptr (src2 p :: afE (backA p t)) else nilP, i64 (nbErr p t)]) := fun n e h => by
    rw [e, if_neg h]; exact .refl
  have good : nbErr p t = 0 → LE (.tup [.dptr (src2 p :: afE (backA p t)), i64 0]) (.tup [if nbErr p t = 0 then .dptr (src2 p :: afE (backA p t)) else nilP, i64 (nbErr p t)]) := fun e => by
    rw [e, if_pos rfl]; exact .refl
  refine calls_data 3 tok mix Tryz.func46 rfl rfl rfl ?_
  refine CallV.to _ (c_pntvalid p (hp.up (by decide)) (by omega)) rfl ?_
  refine Br.mk (fun k => absurd h k) (fun h1 => ?_)
  refine CallV.to _ (c_src2 p hk hs) rfl ?_
  refine ⟨AF, afE, [p.t, t], rfl, Ob.mk ⟨rfl, by decide, by decide, by decide, fun x _ => ⟨rfl, rfl, rfl⟩⟩ ?_⟩
  refine CallV.see 3 _ (a_compose p.t t (hp.up (by decide)) (ht.up (by decide))) rfl rfl rfl ?_
  refine Br.mk (fun h3 => ?_) (fun h3 => ?_)
  · have e : nbErr p t = (compR p.t t).2 := by rw [nbErr, if_neg h1, if_neg nk, if_pos h3]
    exact bad _ e h3
  refine CallV.to _ (a_invert (compR p.t t).1 (compR_le100 _ _)) rfl ?_
  have e : nbErr p t = (invR (bothA p t)).2 := by rw [nbErr, if_neg h1, if_neg nk, if_neg h3]
  refine Br.mk (fun h4 => ?_) (fun h4 => ?_)
  · exact bad _ e h4
  · have h4 : nbErr p t = 0 := by rw [e]; exact Decidable.not_not.1 h4
    exact LE.trans (LE_of_eq (by kernel_rfl)) (good h4)

set_option maxRecDepth 100000 in
set_option maxHeartbeats 8000000 in
theorem c_nb3 (p : Pnt) (t : AF) (hp : p.t.le 12) (ht : t.le 12) (hl : p.im.px.length ≤ 300) (h : pntOK p) (hk : p.k = 3) (hs : p.st.length ≤ 40) :
    CallsG Tryz.prog 46 [.agg (pntE p), .agg (afE t)] [] (.tup [if nbErr p t = 0 then .dptr (src3 p :: afE (backA p t)) else nilP, i64 (nbErr p t)]) [] := by
  have nk : ¬ p.k = 1 := by omega
  have bad : ∀ n, nbErr p t = n → ¬ n = 0 → LE (.tup [nilP, i64 n]) (.tup [if nbErr p t = 0 then .dptr (src3 p :: afE (backA p t)) else nilP, i64 (nbErr p t)]) := fun n e h => by
    rw [e, if_neg h]; exact .refl
  have good : nbErr p t = 0 → LE (.tup [.dptr (src3 p :: afE (backA p t)), i64 0]) (.tup [if nbErr p t = 0 then .dptr (src3 p :: afE (backA p t)) else nilP, i64 (nbErr p t)]) := fun e => by
    rw [e, if_pos rfl]; exact .refl
  refine calls_data 3 tok mix Tryz.func46 rfl rfl rfl ?_
  refine CallV.to _ (c_pntvalid p (hp.up (by decide)) (by omega)) rfl ?_
  refine Br.mk (fun k => absurd h k) (fun h1 => ?_)
  refine CallV.to _ (c_src3 p hk hs) rfl ?_
  refine ⟨AF, afE, [p.t, t], rfl, Ob.mk ⟨rfl, by decide, by decide, by decide, fun x _ => ⟨rfl, rfl, rfl⟩⟩ ?_⟩
  refine CallV.see 3 _ (a_compose p.t t (hp.up (by decide)) (ht.up (by decide))) rfl rfl rfl ?_
  refine Br.mk (fun h3 => ?_) (fun h3 => ?_)
  · have e : nbErr p t = (compR p.t t).2 := by rw [nbErr, if_neg h1, if_neg nk, if_pos h3]
    exact bad _ e h3
  refine CallV.to _ (a_invert (compR p.t t).1 (compR_le100 _ _)) rfl ?_
  have e : nbErr p t = (invR (bothA p t)).2 := by rw [nbErr, if_neg h1, if_neg nk, if_neg h3]
  refine Br.mk (fun h4 => ?_) (fun h4 => ?_)
  · exact bad _ e h4
  · have h4 : nbErr p t = 0 := by rw [e]; exact Decidable.not_not.1 h4
    exact LE.trans (LE_of_eq (by kernel_rfl)) (good h4)

set_option maxRecDepth 100000 in
set_option maxHeartbeats 8000000 in
theorem c_nb4 (p : Pnt) (t : AF) (hp : p.t.le 12) (ht : t.le 12) (hl : p.im.px.length ≤ 300) (h : pntOK p) (hk : p.k = 4) (hs : p.st.length ≤ 40) :
    CallsG Tryz.prog 46 [.agg (pntE p), .agg (afE t)] [] (.tup [if nbErr p t = 0 then .dptr (src4 p :: afE (backA p t)) else nilP, i64 (nbErr p t)]) [] := by
  have nk : ¬ p.k = 1 := by omega
  have bad : ∀ n, nbErr p t = n → ¬ n = 0 → LE (.tup [nilP, i64 n]) (.tup [if nbErr p t = 0 then .dptr (src4 p :: afE (backA p t)) else nilP, i64 (nbErr p t)]) := fun n e h => by
    rw [e, if_neg h]; exact .refl
  have good : nbErr p t = 0 → LE (.tup [.dptr (src4 p :: afE (backA p t)), i64 0]) (.tup [if nbErr p t = 0 then .dptr (src4 p :: afE (backA p t)) else nilP, i64 (nbErr p t)]) := fun e => by
    rw [e, if_pos rfl]; exact .refl
  refine calls_data 3 tok mix Tryz.func46 rfl rfl rfl ?_
  refine CallV.to _ (c_pntvalid p (hp.up (by decide)) (by omega)) rfl ?_
  refine Br.mk (fun k => absurd h k) (fun h1 => ?_)
  refine CallV.to _ (c_src4 p hk hs (by omega)) rfl ?_
  refine ⟨AF, afE, [p.t, t], rfl, Ob.mk ⟨rfl, by decide, by decide, by decide, fun x _ => ⟨rfl, rfl, rfl⟩⟩ ?_⟩
  refine CallV.see 3 _ (a_compose p.t t (hp.up (by decide)) (ht.up (by decide))) rfl rfl rfl ?_
  refine Br.mk (fun h3 => ?_) (fun h3 => ?_)
  · have e : nbErr p t = (compR p.t t).2 := by rw [nbErr, if_neg h1, if_neg nk, if_pos h3]
    exact bad _ e h3
  refine CallV.to _ (a_invert (compR p.t t).1 (compR_le100 _ _)) rfl ?_
  have e : nbErr p t = (invR (bothA p t)).2 := by rw [nbErr, if_neg h1, if_neg nk, if_neg h3]
  refine Br.mk (fun h4 => ?_) (fun h4 => ?_)
  · exact bad _ e h4
  · have h4 : nbErr p t = 0 := by rw [e]; exact Decidable.not_not.1 h4
    exact LE.trans (LE_of_eq (by kernel_rfl)) (good h4)

end Go.Gs
/- Pixels of a brush, the program's. -/
namespace Go.Gs
open Go.Proofs

theorem c_atnil (x y : Int) : CallsG Tryz.prog 45 [nilP, i64 x, i64 y] [] (.agg (pixE zeroP)) [] := by
  refine calls_to tok mix Tryz.func45 rfl rfl rfl ?_
  exact .refl

set_option maxRecDepth 100000 in
set_option maxHeartbeats 4000000 in
theorem c_brat1 (p : Pnt) (t : AF) (x y : Int) (hk : p.k = 1) : CallsG Tryz.prog 45 [.dptr (src1 p :: zero24), i64 x, i64 y] [] (.agg (pixE (atP p t x y))) [] := by
  have fin : ∀ {σ : SV} {q : Pix}, atP p t x y = q → LE σ (.agg (pixE q)) → LE σ (.agg (pixE (atP p t x y))) := fun e h => e ▸ h
  refine calls_to tok mix Tryz.func45 rfl rfl rfl ?_
  refine CallV.to _ (c_within x) rfl ?_
  refine Br.mk (fun h2 => fin (q := zeroP) (by rw [atP, if_pos (fun k => h2 k.1)]) .refl) (fun h2 => ?_)
  refine CallV.to _ (c_within y) rfl ?_
  refine Br.mk (fun h3 => fin (q := zeroP) (by rw [atP, if_pos (fun k => h3 k.2)]) .refl) (fun h3 => ?_)
  have h2 := Decidable.not_not.1 h2
  have h3 := Decidable.not_not.1 h3
  refine ⟨331, by kernel_rfl, ?_⟩
  refine CallV.to _ (c_at1 (preP p.c) _ _ rfl rfl) rfl ?_
  exact fin (q := preP p.c) (by rw [atP, if_neg (fun k => k ⟨h2, h3⟩), if_pos hk]) .refl

set_option maxRecDepth 100000 in
set_option maxHeartbeats 4000000 in
theorem c_brat2 (p : Pnt) (t : AF) (x y : Int) (hk : p.k = 2) (he : nbErr p t = 0) (h8 : P8p p) : CallsG Tryz.prog 45 [.dptr (src2 p :: afE (backA p t)), i64 x, i64 y] [] (.agg (pixE (atP p t x y))) [] := by
  have fin : ∀ {σ : SV} {q : Pix}, atP p t x y = q → LE σ (.agg (pixE q)) → LE σ (.agg (pixE (atP p t x y))) := fun e h => e ▸ h
  obtain ⟨_, hc, hi, hb⟩ := (nb_ok he).2.resolve_left (by omega)
  refine calls_to tok mix Tryz.func45 rfl rfl rfl ?_
  refine CallV.to _ (c_within x) rfl ?_
  refine Br.mk (fun h2 => fin (q := zeroP) (by rw [atP, if_pos (fun k => h2 k.1)]) .refl) (fun h2 => ?_)
  refine CallV.to _ (c_within y) rfl ?_
  refine Br.mk (fun h3 => fin (q := zeroP) (by rw [atP, if_pos (fun k => h3 k.2)]) .refl) (fun h3 => ?_)
  have h2 := Decidable.not_not.1 h2
  have h3 := Decidable.not_not.1 h3
  obtain ⟨lu, lv⟩ := uv_len (x := x) (y := y) hb h2 h3
  refine Dr.mk (by decide +kernel) ?_
  refine CallV.to _ (c_middle x h2) rfl ?_
  refine CallV.to _ (c_middle y h3) rfl ?_
  have hx := a_exact (backA p t) (ofQ (midQ x)) (ofQ (midQ y)) (hb.up (by decide)) (by rw [ofQ_len]; have := mid_len h2; omega) (by rw [ofQ_len]; have := mid_len h3; omega)
  rw [ofQ_v, ofQ_v] at hx
  refine CallV.to _ hx rfl ?_
  refine ⟨332, by kernel_rfl, ?_⟩
  refine CallV.to _ (c_at2 p (uQ p t x y) (vQ p t x y) hk lu lv h8) rfl ?_
  exact fin (by rw [atP, if_neg (fun k => k ⟨h2, h3⟩), if_neg (by omega)]) .refl

set_option maxRecDepth 100000 in
set_option maxHeartbeats 4000000 in
theorem c_brat3 (p : Pnt) (t : AF) (x y : Int) (hk : p.k = 3) (he : nbErr p t = 0) (h8 : P8p p) : CallsG Tryz.prog 45 [.dptr (src3 p :: afE (backA p t)), i64 x, i64 y] [] (.agg (pixE (atP p t x y))) [] := by
  have fin : ∀ {σ : SV} {q : Pix}, atP p t x y = q → LE σ (.agg (pixE q)) → LE σ (.agg (pixE (atP p t x y))) := fun e h => e ▸ h
  obtain ⟨_, hc, hi, hb⟩ := (nb_ok he).2.resolve_left (by omega)
  refine calls_to tok mix Tryz.func45 rfl rfl rfl ?_
  refine CallV.to _ (c_within x) rfl ?_
  refine Br.mk (fun h2 => fin (q := zeroP) (by rw [atP, if_pos (fun k => h2 k.1)]) .refl) (fun h2 => ?_)
  refine CallV.to _ (c_within y) rfl ?_
  refine Br.mk (fun h3 => fin (q := zeroP) (by rw [atP, if_pos (fun k => h3 k.2)]) .refl) (fun h3 => ?_)
  have h2 := Decidable.not_not.1 h2
  have h3 := Decidable.not_not.1 h3
  obtain ⟨lu, lv⟩ := uv_len (x := x) (y := y) hb h2 h3
  refine Dr.mk (by decide +kernel) ?_
  refine CallV.to _ (c_middle x h2) rfl ?_
  refine CallV.to _ (c_middle y h3) rfl ?_
  have hx := a_exact (backA p t) (ofQ (midQ x)) (ofQ (midQ y)) (hb.up (by decide)) (by rw [ofQ_len]; have := mid_len h2; omega) (by rw [ofQ_len]; have := mid_len h3; omega)
  rw [ofQ_v, ofQ_v] at hx
  refine CallV.to _ hx rfl ?_
  refine ⟨332, by kernel_rfl, ?_⟩
  refine CallV.to _ (c_at3 p (uQ p t x y) (vQ p t x y) hk lu lv h8) rfl ?_
  exact fin (by rw [atP, if_neg (fun k => k ⟨h2, h3⟩), if_neg (by omega)]) .refl

set_option maxRecDepth 100000 in
set_option maxHeartbeats 4000000 in
theorem c_brat4 (p : Pnt) (t : AF) (x y : Int) (hk : p.k = 4) (he : nbErr p t = 0) (h8 : P8p p) (hl : p.im.px.length ≤ 300) : CallsG Tryz.prog 45 [.dptr (src4 p :: afE (backA p t)), i64 x, i64 y] [] (.agg (pixE (atP p t x y))) [] := by
  have fin : ∀ {σ : SV} {q : Pix}, atP p t x y = q → LE σ (.agg (pixE q)) → LE σ (.agg (pixE (atP p t x y))) := fun e h => e ▸ h
  obtain ⟨_, hc, hi, hb⟩ := (nb_ok he).2.resolve_left (by omega)
  refine calls_to tok mix Tryz.func45 rfl rfl rfl ?_
  refine CallV.to _ (c_within x) rfl ?_
  refine Br.mk (fun h2 => fin (q := zeroP) (by rw [atP, if_pos (fun k => h2 k.1)]) .refl) (fun h2 => ?_)
  refine CallV.to _ (c_within y) rfl ?_
  refine Br.mk (fun h3 => fin (q := zeroP) (by rw [atP, if_pos (fun k => h3 k.2)]) .refl) (fun h3 => ?_)
  have h2 := Decidable.not_not.1 h2
  have h3 := Decidable.not_not.1 h3
  obtain ⟨lu, lv⟩ := uv_len (x := x) (y := y) hb h2 h3
  refine Dr.mk (by decide +kernel) ?_
  refine CallV.to _ (c_middle x h2) rfl ?_
  refine CallV.to _ (c_middle y h3) rfl ?_
  have hx := a_exact (backA p t) (ofQ (midQ x)) (ofQ (midQ y)) (hb.up (by decide)) (by rw [ofQ_len]; have := mid_len h2; omega) (by rw [ofQ_len]; have := mid_len h3; omega)
  rw [ofQ_v, ofQ_v] at hx
  refine CallV.to _ hx rfl ?_
  refine ⟨339, by kernel_rfl, ?_⟩
  refine CallV.to _ (c_at4 p (uQ p t x y) (vQ p t x y) hk lu lv h8 hl) rfl ?_
  exact fin (by rw [atP, if_neg (fun k => k ⟨h2, h3⟩), if_neg (by omega)]) .refl

end Go.Gs
/- A brush by its contract; the example of the laws of paints. -/
namespace Go.Gs
open Go.Proofs

theorem c_brush (p : Pnt) (t : AF) (hf : fewP p) (ht : t.le 12) (h8 : P8p p) (h : nbErr p t = 0) :
    ∃ cs : List SV, CallsG Tryz.prog 46 [.agg (pntE p), .agg (afE t)] [] (.tup [.dptr cs, i64 0]) [] ∧
      ∀ x y : Int, CallsG Tryz.prog 45 [.dptr cs, i64 x, i64 y] [] (.agg (pixE (atP p t x y))) [] := by
  obtain ⟨f1, f2, f3⟩ := hf
  have hok := (nb_ok h).1
  have f1' : p.st.length ≤ 40 := by omega
  have f2' : p.im.px.length ≤ 300 := by omega
  rcases hok.2.1 with ⟨k, _⟩ | ⟨k, _⟩ | ⟨k, _⟩ | ⟨k, _⟩
  · exact ⟨_, c_nb1 p t f3 f2' hok k f1' h8, fun x y => c_brat1 p t x y k⟩
  · have hn := c_nb2 p t f3 ht f2' hok k f1'
    rw [h, if_pos rfl] at hn
    exact ⟨_, hn, fun x y => c_brat2 p t x y k h h8⟩
  · have hn := c_nb3 p t f3 ht f2' hok k f1'
    rw [h, if_pos rfl] at hn
    exact ⟨_, hn, fun x y => c_brat3 p t x y k h h8⟩
  · have hn := c_nb4 p t f3 ht f2' hok k f1'
    rw [h, if_pos rfl] at hn
    exact ⟨_, hn, fun x y => c_brat4 p t x y k h h8 f2'⟩

theorem c_brushbad (p : Pnt) (t : AF) (hf : fewP p) (ht : t.le 12) (h : ¬ nbErr p t = 0) :
    CallsG Tryz.prog 46 [.agg (pntE p), .agg (afE t)] [] (.tup [nilP, i64 (nbErr p t)]) [] := by
  obtain ⟨f1, f2, f3⟩ := hf
  have f1' : p.st.length ≤ 40 := by omega
  have f2' : p.im.px.length ≤ 300 := by omega
  by_cases hok : pntOK p
  · rcases hok.2.1 with ⟨k, _⟩ | ⟨k, _⟩ | ⟨k, _⟩ | ⟨k, _⟩
    · exact absurd (by rw [nbErr, if_neg (fun n => n hok), if_pos k]) h
    · have hn := c_nb2 p t f3 ht f2' hok k f1'
      rwa [if_neg h] at hn
    · have hn := c_nb3 p t f3 ht f2' hok k f1'
      rwa [if_neg h] at hn
    · have hn := c_nb4 p t f3 ht f2' hok k f1'
      rwa [if_neg h] at hn
  · have hn := c_nbbad p t f3 f2' hok
    rw [nbErr, if_pos hok]
    exact hn

def solidP (c : Pix) : Pnt := { kindP 1 with c := c }
theorem solid_nb (c : Pix) (t : AF) : nbErr (solidP c) t = 0 := by
  have hz : zeroAF.ok := by decide +kernel
  rw [nbErr, if_neg, if_pos (show (solidP c).k = 1 from rfl)]
  exact fun h => h ⟨hz, .inl ⟨rfl, ⟨rfl, rfl, rfl, rfl⟩, ⟨rfl, rfl, rfl, rfl⟩, rfl, ⟨rfl, rfl, rfl, rfl, rfl, rfl⟩⟩, .inl rfl⟩
theorem LE_solidP (c : Pix) : LE (.agg (i64 1 :: u8 c.r :: u8 c.g :: u8 c.b :: u8 c.a :: i64 0 :: i64 0 :: i64 0 :: i64 0 :: i64 0 :: nil1 :: i64 0 :: i64 0 :: i64 0 :: nil1 :: i64 0 :: zero24)) (.agg (pntE (solidP c))) :=
  LE_agg (.cons .refl (.cons .refl (.cons .refl (.cons .refl (.cons .refl (.cons .refl (.cons .refl (.cons .refl (.cons .refl (.cons .refl (.cons LE_nil0 (.cons .refl (.cons .refl (.cons .refl (.cons LE_nil0 (.cons .refl LE_zt))))))))))))))))
theorem solid_few (c : Pix) : fewP (solidP c) := ⟨by show (0 : Int) ≤ 40; decide, by show (0 : Int) ≤ 300; decide, zeroAF_le _⟩
theorem solid_8 {c : Pix} (h : P8 c) : P8p (solidP c) := ⟨h, fun _ k => (by cases k), fun _ k => (by cases k)⟩
theorem idA_le12 : idA.le 12 := idA_le.up (by decide)

def exL : Pnt := ⟨2, zeroP, zp, ⟨512, 0⟩, 0, [⟨0, ⟨0, 0, 0, 255⟩⟩, ⟨65536, ⟨255, 255, 255, 255⟩⟩], 1, ⟨0, 0, []⟩, 0, idA⟩
theorem exL_nb : nbErr exL idA = 0 := by decide +kernel
theorem exL_at : atP exL idA 0 0 = ⟨64, 64, 64, 255⟩ := by decide +kernel
theorem exL_few : fewP exL := ⟨by decide, by decide, idA_le12⟩
theorem exL_8s : ∀ s ∈ exL.st, P8 s.c := fun s h => by
  have h : s ∈ [(⟨0, ⟨0, 0, 0, 255⟩⟩ : Stop), ⟨65536, ⟨255, 255, 255, 255⟩⟩] := h
  simp only [List.mem_cons, List.not_mem_nil, or_false] at h
  rcases h with rfl | rfl <;> exact ⟨⟨by decide, by decide⟩, ⟨by decide, by decide⟩, ⟨by decide, by decide⟩, ⟨by decide, by decide⟩⟩
theorem exL_8 : P8p exL := ⟨P8_zero, exL_8s, fun q h => (by cases h)⟩
theorem ex0_nb : nbErr (kindP 0) idA = 16 := by decide +kernel

end Go.Gs
