/- Sources of color, the program's. -/
import Derived.Test.YtoggmkhegbfjfaaGreatMAP
import Derived.Test.YtoggmkhegbfjfaaGreatMAR
import Derived.Test.YtoggmkhegbfjfaaGreatMAI
import Derived.RowKit3
import Derived.Below
import GoSem.Claim
import Derived.Deep.Slices
import Derived.Deep.Fields
import Derived.ChangeSame
import Derived.Lib.SmallJoins
import Derived.WalkKit
import Derived.ProofKit
import Derived.OpenShut
import Derived.Carry
namespace Go.Gs
open Go.Proofs

def src1 (p : Pnt) : SV := .ifc 117 (.agg (pixE (preP p.c)))
def src2 (p : Pnt) : SV := .ifc 154 (.agg [.sl stopE p.st, i64 p.sp, .dfn 127 [.dptr (pntE p)]])
def src3 (p : Pnt) : SV := .ifc 154 (.agg [.sl stopE p.st, i64 p.sp, .dfn 129 [.dptr (pntE p)]])
def src4 (p : Pnt) : SV := .ifc 158 (.agg [i64 p.im.w, i64 p.im.h, .sl pixE p.im.px, i64 p.sm, i64 p.sp])

set_option maxRecDepth 100000 in
set_option maxHeartbeats 4000000 in
theorem c_src1 (p : Pnt) (h : p.k = 1) (hs : p.st.length ≤ 40) (h8 : P8 p.c) : CallsG Tryz.prog 87 [.agg (pntE p)] [] (src1 p) [] := by
  refine calls_data 2 tok mix Tryz.func87 rfl rfl rfl ?_
  refine Dr.dyn (Ob.mk (by decide +kernel) ?_)
  refine CallV.fresh _ _ (c_stclone p.st (by omega)) rfl (fun _ _ => rfl) (.inr (fun _ _ => rfl)) ?_
  refine Ob.mk (by kernel_rfl) ?_
  refine Br.mk (fun k => by omega) (fun _ => ?_)
  refine Br.mk (fun k => by omega) (fun _ => ?_)
  refine Br.mk (fun k => by omega) (fun _ => ?_)
  refine CallV.to _ (c_premul p.c h8) rfl ?_
  exact .refl

set_option maxRecDepth 100000 in
set_option maxHeartbeats 4000000 in
theorem c_src2 (p : Pnt) (h : p.k = 2) (hs : p.st.length ≤ 40) : CallsG Tryz.prog 87 [.agg (pntE p)] [] (src2 p) [] := by
  refine calls_data 2 tok mix Tryz.func87 rfl rfl rfl ?_
  refine Dr.dyn (Ob.mk (by decide +kernel) ?_)
  refine CallV.fresh _ _ (c_stclone p.st (by omega)) rfl (fun _ _ => rfl) (.inr (fun _ _ => rfl)) ?_
  refine Ob.mk (by kernel_rfl) ?_
  refine Br.mk (fun k => ?_) (fun k => absurd h k)
  exact .refl

set_option maxRecDepth 100000 in
set_option maxHeartbeats 4000000 in
theorem c_src3 (p : Pnt) (h : p.k = 3) (hs : p.st.length ≤ 40) : CallsG Tryz.prog 87 [.agg (pntE p)] [] (src3 p) [] := by
  refine calls_data 2 tok mix Tryz.func87 rfl rfl rfl ?_
  refine Dr.dyn (Ob.mk (by decide +kernel) ?_)
  refine CallV.fresh _ _ (c_stclone p.st (by omega)) rfl (fun _ _ => rfl) (.inr (fun _ _ => rfl)) ?_
  refine Ob.mk (by kernel_rfl) ?_
  refine Br.mk (fun k => by omega) (fun _ => ?_)
  refine Br.mk (fun k => ?_) (fun k => absurd h k)
  exact .refl

set_option maxRecDepth 100000 in
set_option maxHeartbeats 4000000 in
theorem c_src4 (p : Pnt) (h : p.k = 4) (hs : p.st.length ≤ 40) (hm : p.im.px.length ≤ 300) : CallsG Tryz.prog 87 [.agg (pntE p)] [] (src4 p) [] := by
  refine calls_data 2 tok mix Tryz.func87 rfl rfl rfl ?_
  refine Dr.dyn (Ob.mk (by decide +kernel) ?_)
  refine CallV.fresh _ _ (c_stclone p.st (by omega)) rfl (fun _ _ => rfl) (.inr (fun _ _ => rfl)) ?_
  refine Ob.mk (by kernel_rfl) ?_
  refine Br.mk (fun k => by omega) (fun _ => ?_)
  refine Br.mk (fun k => by omega) (fun _ => ?_)
  refine Br.mk (fun k => ?_) (fun k => absurd h k)
  refine CallV.fresh _ _ (c_pxclone p.im.px (by omega)) rfl (fun _ _ => rfl) (.inr (fun _ _ => rfl)) ?_
  exact .refl

theorem c_far2 (p : Pnt) (x y : Rat) (hx : qlen x ≤ 40) (hy : qlen y ≤ 40) : CallsG Tryz.prog 127 [.agg (brE (ofQ x)), .agg (brE (ofQ y)), .dptr (pntE p)] [] (i64 (linP p.p0 p.p1 x y)) [] := by
  refine calls_to tok mix Tryz.func127 rfl rfl rfl ?_
  refine CallV.to _ (c_linpos p.p0 p.p1 x y (by omega) (by omega)) rfl ?_
  exact .refl
theorem c_far3 (p : Pnt) (x y : Rat) (hx : qlen x ≤ 40) (hy : qlen y ≤ 40) : CallsG Tryz.prog 129 [.agg (brE (ofQ x)), .agg (brE (ofQ y)), .dptr (pntE p)] [] (i64 (radP p.p0 p.r x y)) [] := by
  refine calls_to tok mix Tryz.func129 rfl rfl rfl ?_
  refine CallV.to _ (c_radpos p.p0 p.r x y (by omega) (by omega)) rfl ?_
  exact .refl

theorem c_at1 (q : Pix) (a b : List SV) (ha : a = [bl false, .val (.slice none 0 0), bl false, .val (.slice none 0 0)]) (hb : b = [bl false, .val (.slice none 0 0), bl false, .val (.slice none 0 0)]) : CallsG Tryz.prog 331 [.agg (pixE q), .agg a, .agg b] [] (.agg (pixE q)) [] := by
  subst ha hb
  refine calls_to tok mix Tryz.func331 rfl rfl rfl ?_
  exact .refl

set_option maxRecDepth 100000 in
theorem c_at2 (p : Pnt) (x y : Rat) (hk : p.k = 2) (hx : qlen x ≤ 40) (hy : qlen y ≤ 40) (h8 : P8p p) : CallsG Tryz.prog 332 [.agg [.sl stopE p.st, i64 p.sp, .dfn 127 [.dptr (pntE p)]], .agg (brE (ofQ x)), .agg (brE (ofQ y))] []
    (.agg (pixE (srcP p x y))) [] := by
  refine calls_to tok mix Tryz.func332 rfl rfl rfl ?_
  refine Dr.mk (by decide +kernel) ?_
  refine CallV.to _ (c_far2 p x y hx hy) rfl ?_
  refine CallV.to _ (c_spcol p.st p.sp (linP p.p0 p.p1 x y) h8.2.1) rfl ?_
  refine CallV.to _ (c_premul (spCol p.st p.sp (linP p.p0 p.p1 x y)) (spCol_8 h8.2.1)) rfl ?_
  rw [srcP, if_pos hk]
  exact .refl
set_option maxRecDepth 100000 in
theorem c_at3 (p : Pnt) (x y : Rat) (hk : p.k = 3) (hx : qlen x ≤ 40) (hy : qlen y ≤ 40) (h8 : P8p p) : CallsG Tryz.prog 332 [.agg [.sl stopE p.st, i64 p.sp, .dfn 129 [.dptr (pntE p)]], .agg (brE (ofQ x)), .agg (brE (ofQ y))] []
    (.agg (pixE (srcP p x y))) [] := by
  refine calls_to tok mix Tryz.func332 rfl rfl rfl ?_
  refine Dr.mk (by decide +kernel) ?_
  refine CallV.to _ (c_far3 p x y hx hy) rfl ?_
  refine CallV.to _ (c_spcol p.st p.sp (radP p.p0 p.r x y) h8.2.1) rfl ?_
  refine CallV.to _ (c_premul (spCol p.st p.sp (radP p.p0 p.r x y)) (spCol_8 h8.2.1)) rfl ?_
  rw [srcP, if_neg (by omega), if_pos hk]
  exact .refl

theorem unit_eq (x : Rat) : x * Rat.divInt 1 256 = x / ((256 : Int) : Rat) := by
  rw [Rat.div_def]
  congr 1
  decide +kernel

theorem unit_len : qlen (Rat.divInt 1 256) ≤ 2 := by decide +kernel
set_option maxRecDepth 100000 in
theorem c_at4 (p : Pnt) (x y : Rat) (hk : p.k = 4) (hx : qlen x ≤ 40) (hy : qlen y ≤ 40) (h8 : P8p p) (hl : p.im.px.length ≤ 300) : CallsG Tryz.prog 339 [.agg [i64 p.im.w, i64 p.im.h, .sl pixE p.im.px, i64 p.sm, i64 p.sp], .agg (brE (ofQ x)), .agg (brE (ofQ y))] []
    (.agg (pixE (srcP p x y))) [] := by
  have lu := unit_len
  have m1 := qlen_mul x (Rat.divInt 1 256)
  have m2 := qlen_mul y (Rat.divInt 1 256)
  refine calls_to tok mix Tryz.func339 rfl rfl rfl ?_
  refine CallV.to _ (q_fromints 1 256 (by decide) (by decide) (by decide)) rfl ?_
  refine Dr.mk (by decide +kernel) ?_
  refine CallV.to _ (q_mulQ x (Rat.divInt 1 256) (by omega) (by omega)) rfl ?_
  refine CallV.to _ (q_mulQ y (Rat.divInt 1 256) (by omega) (by omega)) rfl ?_
  have hs := c_sample p.im p.sm p.sp (ofQ (x * Rat.divInt 1 256)) (ofQ (y * Rat.divInt 1 256)) (by omega) h8.2.2 (by rw [ofQ_len]; omega) (by rw [ofQ_len]; omega)
  rw [ofQ_v, ofQ_v, unit_eq, unit_eq] at hs
  rw [← unit_eq, ← unit_eq] at hs
  refine CallV.to _ hs rfl ?_
  rw [unit_eq, unit_eq, srcP, if_neg (by omega), if_neg (by omega)]
  exact .refl

end Go.Gs
/- Brushes, the program's. -/
namespace Go.Gs
open Go.Proofs

def srcV (p : Pnt) : SV := if p.k = 1 then src1 p else if p.k = 2 then src2 p else if p.k = 3 then src3 p else src4 p
/-- The cells of a brush. -/
def brC (p : Pnt) (t : AF) : List SV := srcV p :: afE (if p.k = 1 then zeroAF else backA p t)
def nilP : SV := .val (.pointer none)

theorem c_middle (n : Int) (h : inR n) : CallsG Tryz.prog 83 [i64 n] [] (.agg (brE (ofQ (midQ n)))) [] := by
  refine calls_to tok mix Tryz.func83 rfl rfl rfl ?_
  have h' := h
  unfold inR at h'
  refine Ar.fit (by omega) ?_
  refine Ar.fit (by omega) ?_
  refine CallV.to _ (q_fromint (n * 256 + 128) (by unfold R64; omega)) rfl ?_
  rw [midQ, show 256 * n + 128 = n * 256 + 128 by omega]
  exact .refl

set_option maxRecDepth 100000 in
set_option maxHeartbeats 4000000 in
theorem c_nbbad (p : Pnt) (t : AF) (hp : p.t.le 12) (hl : p.im.px.length ≤ 300) (h : ¬ pntOK p) : CallsG Tryz.prog 46 [.agg (pntE p), .agg (afE t)] [] (.tup [nilP, i64 16]) [] := by
  refine calls_data 3 tok mix Tryz.func46 rfl rfl rfl ?_
  refine CallV.to _ (c_pntvalid p (hp.up (by decide)) (by omega)) rfl ?_
  refine Br.mk (fun _ => ?_) (fun k => absurd h k)
  exact .refl

set_option maxRecDepth 100000 in
set_option maxHeartbeats 4000000 in
theorem c_nb1 (p : Pnt) (t : AF) (hp : p.t.le 12) (hl : p.im.px.length ≤ 300) (h : pntOK p) (hk : p.k = 1) (hs : p.st.length ≤ 40) (h8 : P8p p) :
    CallsG Tryz.prog 46 [.agg (pntE p), .agg (afE t)] [] (.tup [.dptr (src1 p :: zero24), i64 0]) [] := by
  refine calls_data 3 tok mix Tryz.func46 rfl rfl rfl ?_
  refine CallV.to _ (c_pntvalid p (hp.up (by decide)) (by omega)) rfl ?_
  refine Br.mk (fun k => absurd h k) (fun _ => ?_)
  refine CallV.to _ (c_src1 p hk hs h8.1) rfl ?_
  exact .refl

set_option maxRecDepth 100000 in
set_option maxHeartbeats 8000000 in
theorem c_nb2 (p : Pnt) (t : AF) (hp : p.t.le 12) (ht : t.le 12) (hl : p.im.px.length ≤ 300) (h : pntOK p) (hk : p.k = 2) (hs : p.st.length ≤ 40) :
    CallsG Tryz.prog 46 [.agg (pntE p), .agg (afE t)] [] (.tup [if nbErr p t = 0 then .dptr (src2 p :: afE (backA p t)) else nilP, i64 (nbErr p t)]) [] := by
  have nk : ¬ p.k = 1 := by omega
  have bad : ∀ n, nbErr p t = n → ¬ n = 0 → LE (.tup [nilP, i64 n]) (.tup [if nbErr p t = 0 then .dptr (src2 p :: afE (backA p t)) else nilP, i64 (nbErr p t)]) := fun n e h => by
    rw [e, if_neg h]; exact .refl
  have good : nbErr p t = 0 → LE (.tup [.dptr (src2 p :: afE (backA p t)), i64 0]) (.tup [if nbErr p t = 0 then .dptr (src2 p :: afE (backA p t)) else nilP, i64 (nbErr p t)]) := fun e => by
    rw [e, if_pos rfl]; exact .refl
  refine calls_data 3 tok mix Tryz.func46 rfl rfl rfl ?_
  refine CallV.to _ (c_pntvalid p (hp.up (by decide)) (by omega)) rfl ?_
  refine Br.mk (fun k => absurd h k) (fun h1 => ?_)
  refine CallV.to _ (c_src2 p hk hs) rfl ?_
  refine ⟨AF, afE, [p.t, t], rfl, Ob.mk ⟨rfl, by decide, by decide, by decide, fun x _ => ⟨rfl, rfl, rfl⟩⟩ ?_⟩
  refine CallV.see 3 _ (a_compose p.t t (hp.up (by decide)) (ht.up (by decide))) rfl rfl rfl ?_
  refine Br.mk (fun h3 => ?_) (fun h3 => ?_)
  · have e : nbErr p t = (compR p.t t).2 := by rw [nbErr, if_neg h1, if_neg nk, if_pos h3]
    exact bad _ e h3
  refine CallV.to _ (a_invert (compR p.t t).1 (compR_le100 _ _)) rfl ?_
  have e : nbErr p t = (invR (bothA p t)).2 := by rw [nbErr, if_neg h1, if_neg nk, if_neg h3]
  refine Br.mk (fun h4 => ?_) (fun h4 => ?_)
  · exact bad _ e h4
  · have h4 : nbErr p t = 0 := by rw [e]; exact Decidable.not_not.1 h4
    exact LE.trans (LE_of_eq (by kernel_rfl)) (good h4)

set_option maxRecDepth 100000 in
set_option maxHeartbeats 8000000 in
theorem c_nb3 (p : Pnt) (t : AF) (hp : p.t.le 12) (ht : t.le 12) (hl : p.im.px.length ≤ 300) (h : pntOK p) (hk : p.k = 3) (hs : p.st.length ≤ 40) :
    CallsG Tryz.prog 46 [.agg (pntE p), .agg (afE t)] [] (.tup [if nbErr p t = 0 then .dptr (src3 p :: afE (backA p t)) else nilP, i64 (nbErr p t)]) [] := by
  have nk : ¬ p.k = 1 := by omega
  have bad : ∀ n, nbErr p t = n → ¬ n = 0 → LE (.tup [nilP, i64 n]) (.tup [if nbErr p t = 0 then .dptr (src3 p :: afE (backA p t)) else nilP, i64 (nbErr p t)]) := fun n e h => by
    rw [e, if_neg h]; exact .refl
  have good : nbErr p t = 0 → LE (.tup [.dptr (src3 p :: afE (backA p t)), i64 0]) (.tup [if nbErr p t = 0 then .dptr (src3 p :: afE (backA p t)) else nilP, i64 (nbErr p t)]) := fun e => by
    rw [e, if_pos rfl]; exact .refl
  refine calls_data 3 tok mix Tryz.func46 rfl rfl rfl ?_
  refine CallV.to _ (c_pntvalid p (hp.up (by decide)) (by omega)) rfl ?_
  refine Br.mk (fun k => absurd h k) (fun h1 => ?_)
  refine CallV.to _ (c_src3 p hk hs) rfl ?_
  refine ⟨AF, afE, [p.t, t], rfl, Ob.mk ⟨rfl, by decide, by decide, by decide, fun x _ => ⟨rfl, rfl, rfl⟩⟩ ?_⟩
  refine CallV.see 3 _ (a_compose p.t t (hp.up (by decide)) (ht.up (by decide))) rfl rfl rfl ?_
  refine Br.mk (fun h3 => ?_) (fun h3 => ?_)
  · have e : nbErr p t = (compR p.t t).2 := by rw [nbErr, if_neg h1, if_neg nk, if_pos h3]
    exact bad _ e h3
  refine CallV.to _ (a_invert (compR p.t t).1 (compR_le100 _ _)) rfl ?_
  have e : nbErr p t = (invR (bothA p t)).2 := by rw [nbErr, if_neg h1, if_neg nk, if_neg h3]
  refine Br.mk (fun h4 => ?_) (fun h4 => ?_)
  · exact bad _ e h4
  · have h4 : nbErr p t = 0 := by rw [e]; exact Decidable.not_not.1 h4
    exact LE.trans (LE_of_eq (by kernel_rfl)) (good h4)

set_option maxRecDepth 100000 in
set_option maxHeartbeats 8000000 in
theorem c_nb4 (p : Pnt) (t : AF) (hp : p.t.le 12) (ht : t.le 12) (hl : p.im.px.length ≤ 300) (h : pntOK p) (hk : p.k = 4) (hs : p.st.length ≤ 40) :
    CallsG Tryz.prog 46 [.agg (pntE p), .agg (afE t)] [] (.tup [if nbErr p t = 0 then .dptr (src4 p :: afE (backA p t)) else nilP, i64 (nbErr p t)]) [] := by
  have nk : ¬ p.k = 1 := by omega
  have bad : ∀ n, nbErr p t = n → ¬ n = 0 → LE (.tup [nilP, i64 n]) (.tup [if nbErr p t = 0 then .dptr (src4 p :: afE (backA p t)) else nilP, i64 (nbErr p t)]) := fun n e h => by
    rw [e, if_neg h]; exact .refl
  have good : nbErr p t = 0 → LE (.tup [.dptr (src4 p :: afE (backA p t)), i64 0]) (.tup [if nbErr p t = 0 then .dptr (src4 p :: afE (backA p t)) else nilP, i64 (nbErr p t)]) := fun e => by
    rw [e, if_pos rfl]; exact .refl
  refine calls_data 3 tok mix Tryz.func46 rfl rfl rfl ?_
  refine CallV.to _ (c_pntvalid p (hp.up (by decide)) (by omega)) rfl ?_
  refine Br.mk (fun k => absurd h k) (fun h1 => ?_)
  refine CallV.to _ (c_src4 p hk hs (by omega)) rfl ?_
  refine ⟨AF, afE, [p.t, t], rfl, Ob.mk ⟨rfl, by decide, by decide, by decide, fun x _ => ⟨rfl, rfl, rfl⟩⟩ ?_⟩
  refine CallV.see 3 _ (a_compose p.t t (hp.up (by decide)) (ht.up (by decide))) rfl rfl rfl ?_
  refine Br.mk (fun h3 => ?_) (fun h3 => ?_)
  · have e : nbErr p t = (compR p.t t).2 := by rw [nbErr, if_neg h1, if_neg nk, if_pos h3]
    exact bad _ e h3
  refine CallV.to _ (a_invert (compR p.t t).1 (compR_le100 _ _)) rfl ?_
  have e : nbErr p t = (invR (bothA p t)).2 := by rw [nbErr, if_neg h1, if_neg nk, if_neg h3]
  refine Br.mk (fun h4 => ?_) (fun h4 => ?_)
  · exact bad _ e h4
  · have h4 : nbErr p t = 0 := by rw [e]; exact Decidable.not_not.1 h4
    exact LE.trans (LE_of_eq (by kernel_rfl)) (good h4)

end Go.Gs
/- Pixels of a brush, the program's. -/
namespace Go.Gs
open Go.Proofs

theorem c_atnil (x y : Int) : CallsG Tryz.prog 45 [nilP, i64 x, i64 y] [] (.agg (pixE zeroP)) [] := by
  refine calls_to tok mix Tryz.func45 rfl rfl rfl ?_
  exact .refl

set_option maxRecDepth 100000 in
set_option maxHeartbeats 4000000 in
theorem c_brat1 (p : Pnt) (t : AF) (x y : Int) (hk : p.k = 1) : CallsG Tryz.prog 45 [.dptr (src1 p :: zero24), i64 x, i64 y] [] (.agg (pixE (atP p t x y))) [] := by
  have fin : ∀ {σ : SV} {q : Pix}, atP p t x y = q → LE σ (.agg (pixE q)) → LE σ (.agg (pixE (atP p t x y))) := fun e h => e ▸ h
  refine calls_to tok mix Tryz.func45 rfl rfl rfl ?_
  refine CallV.to _ (c_within x) rfl ?_
  refine Br.mk (fun h2 => fin (q := zeroP) (by rw [atP, if_pos (fun k => h2 k.1)]) .refl) (fun h2 => ?_)
  refine CallV.to _ (c_within y) rfl ?_
  refine Br.mk (fun h3 => fin (q := zeroP) (by rw [atP, if_pos (fun k => h3 k.2)]) .refl) (fun h3 => ?_)
  have h2 := Decidable.not_not.1 h2
  have h3 := Decidable.not_not.1 h3
  refine ⟨331, by kernel_rfl, ?_⟩
  refine CallV.to _ (c_at1 (preP p.c) _ _ rfl rfl) rfl ?_
  exact fin (q := preP p.c) (by rw [atP, if_neg (fun k => k ⟨h2, h3⟩), if_pos hk]) .refl

set_option maxRecDepth 100000 in
set_option maxHeartbeats 4000000 in
theorem c_brat2 (p : Pnt) (t : AF) (x y : Int) (hk : p.k = 2) (he : nbErr p t = 0) (h8 : P8p p) : CallsG Tryz.prog 45 [.dptr (src2 p :: afE (backA p t)), i64 x, i64 y] [] (.agg (pixE (atP p t x y))) [] := by
  have fin : ∀ {σ : SV} {q : Pix}, atP p t x y = q → LE σ (.agg (pixE q)) → LE σ (.agg (pixE (atP p t x y))) := fun e h => e ▸ h
  obtain ⟨_, hc, hi, hb⟩ := (nb_ok he).2.resolve_left (by omega)
  refine calls_to tok mix Tryz.func45 rfl rfl rfl ?_
  refine CallV.to _ (c_within x) rfl ?_
  refine Br.mk (fun h2 => fin (q := zeroP) (by rw [atP, if_pos (fun k => h2 k.1)]) .refl) (fun h2 => ?_)
  refine CallV.to _ (c_within y) rfl ?_
  refine Br.mk (fun h3 => fin (q := zeroP) (by rw [atP, if_pos (fun k => h3 k.2)]) .refl) (fun h3 => ?_)
  have h2 := Decidable.not_not.1 h2
  have h3 := Decidable.not_not.1 h3
  obtain ⟨lu, lv⟩ := uv_len (x := x) (y := y) hb h2 h3
  refine Dr.mk (by decide +kernel) ?_
  refine CallV.to _ (c_middle x h2) rfl ?_
  refine CallV.to _ (c_middle y h3) rfl ?_
  have hx := a_exact (backA p t) (ofQ (midQ x)) (ofQ (midQ y)) (hb.up (by decide)) (by rw [ofQ_len]; have := mid_len h2; omega) (by rw [ofQ_len]; have := mid_len h3; omega)
  rw [ofQ_v, ofQ_v] at hx
  refine CallV.to _ hx rfl ?_
  refine ⟨332, by kernel_rfl, ?_⟩
  refine CallV.to _ (c_at2 p (uQ p t x y) (vQ p t x y) hk lu lv h8) rfl ?_
  exact fin (by rw [atP, if_neg (fun k => k ⟨h2, h3⟩), if_neg (by omega)]) .refl

set_option maxRecDepth 100000 in
set_option maxHeartbeats 4000000 in
theorem c_brat3 (p : Pnt) (t : AF) (x y : Int) (hk : p.k = 3) (he : nbErr p t = 0) (h8 : P8p p) : CallsG Tryz.prog 45 [.dptr (src3 p :: afE (backA p t)), i64 x, i64 y] [] (.agg (pixE (atP p t x y))) [] := by
  have fin : ∀ {σ : SV} {q : Pix}, atP p t x y = q → LE σ (.agg (pixE q)) → LE σ (.agg (pixE (atP p t x y))) := fun e h => e ▸ h
  obtain ⟨_, hc, hi, hb⟩ := (nb_ok he).2.resolve_left (by omega)
  refine calls_to tok mix Tryz.func45 rfl rfl rfl ?_
  refine CallV.to _ (c_within x) rfl ?_
  refine Br.mk (fun h2 => fin (q := zeroP) (by rw [atP, if_pos (fun k => h2 k.1)]) .refl) (fun h2 => ?_)
  refine CallV.to _ (c_within y) rfl ?_
  refine Br.mk (fun h3 => fin (q := zeroP) (by rw [atP, if_pos (fun k => h3 k.2)]) .refl) (fun h3 => ?_)
  have h2 := Decidable.not_not.1 h2
  have h3 := Decidable.not_not.1 h3
  obtain ⟨lu, lv⟩ := uv_len (x := x) (y := y) hb h2 h3
  refine Dr.mk (by decide +kernel) ?_
  refine CallV.to _ (c_middle x h2) rfl ?_
  refine CallV.to _ (c_middle y h3) rfl ?_
  have hx := a_exact (backA p t) (ofQ (midQ x)) (ofQ (midQ y)) (hb.up (by decide)) (by rw [ofQ_len]; have := mid_len h2; omega) (by rw [ofQ_len]; have := mid_len h3; omega)
  rw [ofQ_v, ofQ_v] at hx
  refine CallV.to _ hx rfl ?_
  refine ⟨332, by kernel_rfl, ?_⟩
  refine CallV.to _ (c_at3 p (uQ p t x y) (vQ p t x y) hk lu lv h8) rfl ?_
  exact fin (by rw [atP, if_neg (fun k => k ⟨h2, h3⟩), if_neg (by omega)]) .refl

set_option maxRecDepth 100000 in
set_option maxHeartbeats 4000000 in
theorem c_brat4 (p : Pnt) (t : AF) (x y : Int) (hk : p.k = 4) (he : nbErr p t = 0) (h8 : P8p p) (hl : p.im.px.length ≤ 300) : CallsG Tryz.prog 45 [.dptr (src4 p :: afE (backA p t)), i64 x, i64 y] [] (.agg (pixE (atP p t x y))) [] := by
  have fin : ∀ {σ : SV} {q : Pix}, atP p t x y = q → LE σ (.agg (pixE q)) → LE σ (.agg (pixE (atP p t x y))) := fun e h => e ▸ h
  obtain ⟨_, hc, hi, hb⟩ := (nb_ok he).2.resolve_left (by omega)
  refine calls_to tok mix Tryz.func45 rfl rfl rfl ?_
  refine CallV.to _ (c_within x) rfl ?_
  refine Br.mk (fun h2 => fin (q := zeroP) (by rw [atP, if_pos (fun k => h2 k.1)]) .refl) (fun h2 => ?_)
  refine CallV.to _ (c_within y) rfl ?_
  refine Br.mk (fun h3 => fin (q := zeroP) (by rw [atP, if_pos (fun k => h3 k.2)]) .refl) (fun h3 => ?_)
  have h2 := Decidable.not_not.1 h2
  have h3 := Decidable.not_not.1 h3
  obtain ⟨lu, lv⟩ := uv_len (x := x) (y := y) hb h2 h3
  refine Dr.mk (by decide +kernel) ?_
  refine CallV.to _ (c_middle x h2) rfl ?_
  refine CallV.to _ (c_middle y h3) rfl ?_
  have hx := a_exact (backA p t) (ofQ (midQ x)) (ofQ (midQ y)) (hb.up (by decide)) (by rw [ofQ_len]; have := mid_len h2; omega) (by rw [ofQ_len]; have := mid_len h3; omega)
  rw [ofQ_v, ofQ_v] at hx
  refine CallV.to _ hx rfl ?_
  refine ⟨339, by kernel_rfl, ?_⟩
  refine CallV.to _ (c_at4 p (uQ p t x y) (vQ p t x y) hk lu lv h8 hl) rfl ?_
  exact fin (by rw [atP, if_neg (fun k => k ⟨h2, h3⟩), if_neg (by omega)]) .refl

end Go.Gs
/- A brush by its contract; the example of the laws of paints. -/
namespace Go.Gs
open Go.Proofs

theorem c_brush (p : Pnt) (t : AF) (hf : fewP p) (ht : t.le 12) (h8 : P8p p) (h : nbErr p t = 0) :
    ∃ cs : List SV, CallsG Tryz.prog 46 [.agg (pntE p), .agg (afE t)] [] (.tup [.dptr cs, i64 0]) [] ∧
      ∀ x y : Int, CallsG Tryz.prog 45 [.dptr cs, i64 x, i64 y] [] (.agg (pixE (atP p t x y))) [] := by
  obtain ⟨f1, f2, f3⟩ := hf
  have hok := (nb_ok h).1
  have f1' : p.st.length ≤ 40 := by omega
  have f2' : p.im.px.length ≤ 300 := by omega
  rcases hok.2.1 with ⟨k, _⟩ | ⟨k, _⟩ | ⟨k, _⟩ | ⟨k, _⟩
  · exact ⟨_, c_nb1 p t f3 f2' hok k f1' h8, fun x y => c_brat1 p t x y k⟩
  · have hn := c_nb2 p t f3 ht f2' hok k f1'
    rw [h, if_pos rfl] at hn
    exact ⟨_, hn, fun x y => c_brat2 p t x y k h h8⟩
  · have hn := c_nb3 p t f3 ht f2' hok k f1'
    rw [h, if_pos rfl] at hn
    exact ⟨_, hn, fun x y => c_brat3 p t x y k h h8⟩
  · have hn := c_nb4 p t f3 ht f2' hok k f1'
    rw [h, if_pos rfl] at hn
    exact ⟨_, hn, fun x y => c_brat4 p t x y k h h8 f2'⟩

theorem c_brushbad (p : Pnt) (t : AF) (hf : fewP p) (ht : t.le 12) (h : ¬ nbErr p t = 0) :
    CallsG Tryz.prog 46 [.agg (pntE p), .agg (afE t)] [] (.tup [nilP, i64 (nbErr p t)]) [] := by
  obtain ⟨f1, f2, f3⟩ := hf
  have f1' : p.st.length ≤ 40 := by omega
  have f2' : p.im.px.length ≤ 300 := by omega
  by_cases hok : pntOK p
  · rcases hok.2.1 with ⟨k, _⟩ | ⟨k, _⟩ | ⟨k, _⟩ | ⟨k, _⟩
    · exact absurd (by rw [nbErr, if_neg (fun n => n hok), if_pos k]) h
    · have hn := c_nb2 p t f3 ht f2' hok k f1'
      rwa [if_neg h] at hn
    · have hn := c_nb3 p t f3 ht f2' hok k f1'
      rwa [if_neg h] at hn
    · have hn := c_nb4 p t f3 ht f2' hok k f1'
      rwa [if_neg h] at hn
  · have hn := c_nbbad p t f3 f2' hok
    rw [nbErr, if_pos hok]
    exact hn

def solidP (c : Pix) : Pnt := { kindP 1 with c := c }
theorem solid_nb (c : Pix) (t : AF) : nbErr (solidP c) t = 0 := by
  have hz : zeroAF.ok := by decide +kernel
  rw [nbErr, if_neg, if_pos (show (solidP c).k = 1 from rfl)]
  exact fun h => h ⟨hz, .inl ⟨rfl, ⟨rfl, rfl, rfl, rfl⟩, ⟨rfl, rfl, rfl, rfl⟩, rfl, ⟨rfl, rfl, rfl, rfl, rfl, rfl⟩⟩, .inl rfl⟩
theorem LE_solidP (c : Pix) : LE (.agg (i64 1 :: u8 c.r :: u8 c.g :: u8 c.b :: u8 c.a :: i64 0 :: i64 0 :: i64 0 :: i64 0 :: i64 0 :: nil1 :: i64 0 :: i64 0 :: i64 0 :: nil1 :: i64 0 :: zero24)) (.agg (pntE (solidP c))) :=
  LE_agg (.cons .refl (.cons .refl (.cons .refl (.cons .refl (.cons .refl (.cons .refl (.cons .refl (.cons .refl (.cons .refl (.cons .refl (.cons LE_nil0 (.cons .refl (.cons .refl (.cons .refl (.cons LE_nil0 (.cons .refl LE_zt))))))))))))))))
theorem solid_few (c : Pix) : fewP (solidP c) := ⟨by show (0 : Int) ≤ 40; decide, by show (0 : Int) ≤ 300; decide, zeroAF_le _⟩
theorem solid_8 {c : Pix} (h : P8 c) : P8p (solidP c) := ⟨h, fun _ k => (by cases k), fun _ k => (by cases k)⟩
theorem idA_le12 : idA.le 12 := idA_le.up (by decide)

def exL : Pnt := ⟨2, zeroP, zp, ⟨512, 0⟩, 0, [⟨0, ⟨0, 0, 0, 255⟩⟩, ⟨65536, ⟨255, 255, 255, 255⟩⟩], 1, ⟨0, 0, []⟩, 0, idA⟩
theorem exL_nb : nbErr exL idA = 0 := by decide +kernel
theorem exL_at : atP exL idA 0 0 = ⟨64, 64, 64, 255⟩ := by decide +kernel
theorem exL_few : fewP exL := ⟨by decide, by decide, idA_le12⟩
theorem exL_8s : ∀ s ∈ exL.st, P8 s.c := fun s h => by
  have h : s ∈ [(⟨0, ⟨0, 0, 0, 255⟩⟩ : Stop), ⟨65536, ⟨255, 255, 255, 255⟩⟩] := h
  simp only [List.mem_cons, List.not_mem_nil, or_false] at h
  rcases h with rfl | rfl <;> exact ⟨⟨by decide, by decide⟩, ⟨by decide, by decide⟩, ⟨by decide, by decide⟩, ⟨by decide, by decide⟩⟩
theorem exL_8 : P8p exL := ⟨P8_zero, exL_8s, fun q h => (by cases h)⟩
theorem ex0_nb : nbErr (kindP 0) idA = 16 := by decide +kernel

end Go.Gs
/- The program's fills with a brush. -/
namespace Go.Gs
open Go.Proofs

def zeroM : Mk := ⟨zeroR, []⟩
def nilB : List SV := [i64 0, i64 0, i64 0, i64 0, .val (.slice none 0 0)]
theorem zeroB_ok : zeroB.ok := by decide
theorem zeroM_ok : zeroM.ok := by decide
theorem zeroB_8 : B8 zeroB := fun _ h => by cases h
theorem over0 (mode : Int) : overB mode zeroB zeroB zeroM = (zeroB, if modeOK mode then 0 else 2) := by
  unfold overB
  rw [if_neg (fun k => k ⟨zeroB_ok, zeroB_ok⟩), if_neg (fun k => k zeroM_ok)]
  by_cases h : modeOK mode
  · rw [if_neg (fun k => k h), if_pos h]; rfl
  · rw [if_pos h, if_neg h]
theorem bmR_plain {f : FuncId} {ag : List SV} {q : Bm × Int} (h : CallsG Tryz.prog f ag [] (bmR q) [(0, .arr 57 pixE 4 q.1.px)]) : CallsG Tryz.prog f ag [] (.tup [.agg (bmE q.1), i64 q.2]) [] :=
  h.plain rfl
theorem LE_nilB : LE (.agg nilB) (.agg (bmE zeroB)) := LE_agg (.cons .refl (.cons .refl (.cons .refl (.cons .refl (.cons LE_nil0 .nil)))))
theorem LE_nilM : LE (.agg nilB) (.agg (mkE zeroM)) := LE_agg (.cons .refl (.cons .refl (.cons .refl (.cons .refl (.cons LE_nil0 .nil)))))
theorem p_over0 (mode : Int) : CallsG Tryz.prog 23 [i64 mode, .agg nilB, .agg nilB, .agg nilB] [] (.tup [.agg (bmE zeroB), i64 (if modeOK mode then 0 else 2)]) [] := by
  have h := bmR_plain (p_over mode zeroB zeroB zeroM zeroB_8 zeroB_8 (fun _ h => by cases h))
  rw [over0] at h
  exact h.args (.cons .refl (.cons LE_nilB (.cons LE_nilB (.cons LE_nilM .nil))))
theorem copy_all {ys : List Pix} {n : Nat} (z : Pix) (h : n = ys.length) : (List.replicate n z).take (Int.toNat 0) ++ (ys.take ((List.replicate n z).length : Int).toNat ++ (List.replicate n z).drop (Int.toNat 0 + min ys.length ((List.replicate n z).length : Int).toNat)) = ys := by
  subst h; simp
theorem mix_step {r : Rc} {g : Int → Int → Pix} {px : List Pix} {i j : Nat} (hj : (j : Int) < r.w) (hl : i * r.w.toNat + j < px.length) :
    (gridN r g (i * r.w.toNat + j) ++ px.drop (i * r.w.toNat + j)).set (i * r.w.toNat + j) (g (r.x0 + j) (r.y0 + i)) = gridN r g (i * r.w.toNat + (j + 1)) ++ px.drop (i * r.w.toNat + (j + 1)) := by
  rw [← gridN_step hj, List.set_append_right _ _ (by rw [gridN_len]; omega), gridN_len, Nat.sub_self, List.drop_eq_getElem_cons hl, List.set_cons_zero, List.append_assoc, Nat.add_assoc]
  rfl
theorem mix_row {r : Rc} {g : Int → Int → Pix} {px : List Pix} {i : Nat} : gridN r g (i * r.w.toNat + r.w.toNat) ++ px.drop (i * r.w.toNat + r.w.toNat) = gridN r g ((i + 1) * r.w.toNat) ++ px.drop ((i + 1) * r.w.toNat) := by
  rw [Nat.add_mul, Nat.one_mul]
theorem mix_full {r : Rc} {g : Int → Int → Pix} {px : List Pix} (h : r.canon = r) (hl : (px.length : Int) = r.area) : gridN r g (r.h.toNat * r.w.toNat) ++ px.drop (r.h.toNat * r.w.toNat) = grid r g := by
  rw [gridN_full h]
  obtain ⟨_, _, _, _, h1, _, h2, _, _⟩ := Rc.sides h
  have e : r.h.toNat * r.w.toNat = r.area.toNat := by rw [Rc.area_canon h, Int.toNat_mul h1 h2, Nat.mul_comm]
  rw [List.drop_eq_nil_of_le (by omega), List.append_nil]
theorem place_cv {m : Mk} (h : m.ok) {x y n : Int} (hh : m.b.has x y) (e : m.b.idx x y = n) {q : Int} (hq : m.cv[n.toNat]? = some q) : q = m.at_ x y := by
  subst e
  exact Option.some.inj (hq.symm.trans (Mk.get h hh))

set_option maxRecDepth 100000 in
set_option maxHeartbeats 4000000 in
theorem p_withNil  (f : Int → Int → Pix) (hat : ∀ x y : Int, CallsG Tryz.prog 45 [nilP, i64 x, i64 y] [] (.agg (pixE (f x y))) []) (f8 : ∀ x y, P8 (f x y))
    (d : Bm) (m : Mk) (mode : Int) (d8 : B8 d) (m8 : ∀ c ∈ m.cv, R8 c) :
    CallsG Tryz.prog 14 [.agg (bmE d), .agg (mkE m), nilP, i64 mode] [] (bmR (withB f d m mode)) [(0, .arr 57 pixE 4 (withB f d m mode).1.px)] := by
  generalize hq : withB f d m mode = q
  refine calls_own tok mix Tryz.func14 rfl rfl rfl ?_
  refine CallV.to _ (p_bvalid d) rfl ?_
  refine Br.mk (fun h1 => ⟨none, bad_bm (q := q) (e := 15) (by rw [← hq, withB, if_pos h1])⟩) (fun h1 => ?_)
  refine CallV.to _ (p_mvalid m) rfl ?_
  refine Br.mk (fun h2 => ⟨none, bad_bm (q := q) (e := 14) (by rw [← hq, withB, if_neg h1, if_pos h2])⟩) (fun h2 => ?_)
  refine CallV.to _ (p_over0 mode) rfl ?_
  have hno2 : (¬ (if modeOK mode then (0 : Int) else 2) = 0) → ¬ modeOK mode := fun k h => k (if_pos h)
  refine Br.mk (fun h3 => ⟨none, bad_bm (q := q) (e := if modeOK mode then 0 else 2) (by rw [← hq, withB, if_neg h1, if_neg h2, if_pos (hno2 h3), if_neg (hno2 h3)])⟩) (fun h3 => ?_)
  have h3 : modeOK mode := by
    refine Decidable.not_not.1 fun k => h3 ?_
    rw [if_neg k]; decide
  obtain ⟨g, hg⟩ : ∃ g : Int → Int → Pix, g = (fun x y => coverP mode (f x y) (d.at_ x y) (m.at_ x y)) := ⟨_, rfl⟩
  have e : q = (⟨d.b, grid d.b g⟩, 0) := by rw [← hq, withB, if_neg h1, if_neg h2, if_neg (fun k => k h3), hg]
  have hcov : ∀ x y : Int, CallsG Tryz.prog 44 [i64 mode, .agg (pixE (f x y)), .agg (pixE (d.at_ x y)), u8 (m.at_ x y)] [] (.agg (pixE (g x y))) [] := fun x y => hg ▸ p_cover mode (f x y) (d.at_ x y) (m.at_ x y) (f8 x y) (Bm.at_8 d8 x y) (Mk.at_8 m8 x y)
  have hcov0 : ∀ x y : Int, ¬ m.b.has x y → CallsG Tryz.prog 44 [i64 mode, .agg (pixE (f x y)), .agg (pixE (d.at_ x y)), u8 0] [] (.agg (pixE (g x y))) [] := fun x y k => by
    have := hcov x y
    rw [show m.at_ x y = 0 by unfold Mk.at_; rw [if_neg k]] at this
    exact this
  have hd := Decidable.not_not.1 h1
  have hm := Decidable.not_not.1 h2
  have hc := hd.1
  have hA := hd.2.1
  have hl := hd.2.2.1
  have hml := hm.2.2
  have hmA := hm.2.1
  clear hg hq
  subst e
  have hsd := Rc.sides hc
  unfold inRc at hsd
  have ew : d.b.w = d.b.x1 - d.b.x0 := rfl
  have eh : d.b.h = d.b.y1 - d.b.y0 := rfl
  refine Dr.dyn (Ob.mk (by decide +kernel) ?_)
  intro hl0
  refine ⟨Pix, pixE, zeroP, rfl, Ob.mk ⟨by decide, by omega, by omega, (by show (d.px.length : Int) * ((4 : Nat) : Int) ≤ _; omega), by omega⟩ ?_⟩
  refine Ob.mk (by kernel_rfl) ?_
  refine ⟨d.px, rfl, Ob.mk ⟨by decide, by omega, by omega, by simp, fun _ _ => rfl⟩ ?_⟩
  refine CallV.to _ (p_fhigh d.b hc) rfl ?_
  refine ⟨Nat, fun i => ⟨[(56, i64 (i : Int)), (55, i64 (d.b.y1 - d.b.y0)), (3, i64 mode), (2, nilP), (4, .loc 0 0), (5, .loc 1 0), (8, .loc 2 0), (12, .loc 5 0)], [(5, .box 26 [i64 d.b.x0, i64 d.b.y0, i64 d.b.x1, i64 d.b.y1, .own 4]), (4, .arr 57 pixE 4 (gridN d.b g (i * d.b.w.toNat) ++ d.px.drop (i * d.b.w.toNat))), (3, .box 26 (bmE zeroB)), (2, .box 26 nilB), (1, .box 29 (mkE m)), (0, .box 26 (bmE d))], 6, 115, 0⟩,
    fun i => (i : Int) ≤ d.b.h, fun i => (d.b.h - i).toNat, 0, ?_, ?_, ?_⟩
  · show (0 : Int) ≤ d.b.h; omega
  · exact sub_of [(0, some 0), (1, some 1), (2, some 2), (3, some 3), (4, some 4), (5, some 5)] rfl rfl rfl ⟨rfl, rfl, rfl, rfl, rfl, rfl, rfl, rfl, trivial⟩ ⟨rfl, congrArg (fun l => some (Mem.arr 57 pixE 4 l)) ((copy_all zeroP (by omega)).trans (by rw [Nat.zero_mul]; rfl)), rfl, rfl, rfl, rfl, trivial⟩
  rintro i hi
  have hi : (i : Int) ≤ d.b.h := hi
  refine Br.mk (fun g9 => ?_) (fun g9 => ?_)
  · have g9 : (i : Int) < d.b.h := by omega
    refine CallV.to _ (p_fwide d.b hc) rfl ?_
    refine ⟨Nat, fun j => ⟨[(62, i64 (j : Int)), (61, i64 (d.b.x1 - d.b.x0)), (13, i64 (i : Int)), (56, i64 (i : Int)), (55, i64 (d.b.y1 - d.b.y0)), (3, i64 mode), (2, nilP), (4, .loc 0 0), (5, .loc 1 0), (8, .loc 2 0), (12, .loc 5 0)], [(5, .box 26 [i64 d.b.x0, i64 d.b.y0, i64 d.b.x1, i64 d.b.y1, .own 4]), (4, .arr 57 pixE 4 (gridN d.b g (i * d.b.w.toNat + j) ++ d.px.drop (i * d.b.w.toNat + j))), (3, .box 26 (bmE zeroB)), (2, .box 26 nilB), (1, .box 29 (mkE m)), (0, .box 26 (bmE d))], 6, 115, 0⟩,
      fun j => (j : Int) ≤ d.b.w, fun j => (d.b.w - j).toNat, 0, ?_, ?_, ?_⟩
    · show (0 : Int) ≤ d.b.w; omega
    · exact sub_of [(0, some 0), (1, some 1), (2, some 2), (3, some 3), (4, some 4), (5, some 5)] rfl rfl rfl ⟨rfl, rfl, rfl, rfl, rfl, rfl, rfl, rfl, rfl, rfl, rfl, trivial⟩ ⟨rfl, rfl, rfl, rfl, rfl, rfl, trivial⟩
    rintro j hj
    have hj : (j : Int) ≤ d.b.w := hj
    refine Br.mk (fun k1 => ?_) (fun k1 => ?_)
    · have k1 : (j : Int) < d.b.w := by omega
      have hpl := grid_place hc g9 k1
      have hij := hpl.2.1
      have eij : ((i : Int) * (d.b.x1 - d.b.x0) + j).toNat = i * d.b.w.toNat + j := by
        rw [← ew, show (i : Int) * d.b.w + j = ((i * d.b.w.toNat + j : Nat) : Int) by rw [Int.natCast_add, Int.natCast_mul, Int.toNat_of_nonneg (by omega)]]; rfl
      have hidx : d.b.idx (d.b.x0 + j) (d.b.y0 + i) = (i : Int) * (d.b.x1 - d.b.x0) + j := by
        rw [(Rc.idx_has hpl.1).1, ← ew, show d.b.y0 + (i : Int) - d.b.y0 = i by omega, show d.b.x0 + (j : Int) - d.b.x0 = j by omega]
      have hr := Rc.idx_has hpl.1
      rw [hidx] at hr
      have hlen : (gridN d.b g (i * d.b.w.toNat + j) ++ d.px.drop (i * d.b.w.toNat + j)).length = d.px.length := by
        rw [List.length_append, gridN_len, List.length_drop]; omega
      have hmb := mulb (a := (i : Int)) (b := d.b.x1 - d.b.x0) (A := 8192) (B := 8192) (by omega) (by omega) (by omega) (by omega)
      refine Dr.dyn (Ob.mk (by decide +kernel) ?_)
      refine Ar.fit (by omega) ?_
      refine Ar.fit (by omega) ?_
      refine Ob.mk (by kernel_rfl) ?_
      refine CallV.to _ (p_fwide d.b hc) rfl ?_
      refine Ar.fit (by omega) ?_
      refine Ar.fit (by omega) ?_
      refine CallV.to _ (p_findex m.b hm.1 (d.b.x0 + j) (d.b.y0 + i)) rfl ?_
      refine Br.mk (fun hy => ?_) (fun hno => ?_)
      · have hr2 := Rc.idx_has hy
        have ei : (if m.b.has (d.b.x0 + j) (d.b.y0 + i) then m.b.idx (d.b.x0 + j) (d.b.y0 + i) else 0) = m.b.idx (d.b.x0 + j) (d.b.y0 + i) := if_pos hy
        refine Ob.mk (by rw [ei]; omega) ?_
        rw [ei]
        intro v hv
        obtain rfl := place_cv hm hy rfl hv
        refine Dr.dyn (Ob.mk (by decide +kernel) ?_)
        refine CallV.to _ (hat (d.b.x0 + j) (d.b.y0 + i)) rfl ?_
        refine Ob.mk (by omega) ?_
        intro q hq
        obtain rfl := place_px hd hpl.1 hidx hq
        refine CallV.to _ (hcov (d.b.x0 + j) (d.b.y0 + i)) rfl ?_
        refine Ob.mk (by omega) ?_
        refine Ob.mk (by omega) ?_
        intro q hq
        refine ⟨g (d.b.x0 + j) (d.b.y0 + i), rfl, ?_⟩
        refine Ob.mk (by kernel_rfl) ?_
        refine Ar.fit (by omega) ?_
        refine ⟨j + 1, (by show ((j + 1 : Nat) : Int) ≤ d.b.w; omega), sub_of [(0, some 0), (1, some 1), (2, some 2), (3, some 3), (4, some 4), (5, some 5)] rfl rfl rfl
          ⟨congrArg (fun n => some (i64 n)) (show (j : Int) + 1 = ((j + 1 : Nat) : Int) by omega), rfl, rfl, rfl, rfl, rfl, rfl, rfl, rfl, rfl, rfl, trivial⟩
          ⟨rfl, congrArg (fun l => some (Mem.arr 57 pixE 4 l)) (by rw [eij]; exact mix_step k1 (by omega)), rfl, rfl, rfl, rfl, trivial⟩, (by dsimp only; omega)⟩
      · 
        refine Dr.dyn (Ob.mk (by decide +kernel) ?_)
        refine CallV.to _ (hat (d.b.x0 + j) (d.b.y0 + i)) rfl ?_
        refine Ob.mk (by omega) ?_
        intro q hq
        obtain rfl := place_px hd hpl.1 hidx hq
        refine CallV.to _ (hcov0 (d.b.x0 + j) (d.b.y0 + i) hno) rfl ?_
        refine Ob.mk (by omega) ?_
        refine Ob.mk (by omega) ?_
        intro q hq
        refine ⟨g (d.b.x0 + j) (d.b.y0 + i), rfl, ?_⟩
        refine Ob.mk (by kernel_rfl) ?_
        refine Ar.fit (by omega) ?_
        refine ⟨j + 1, (by show ((j + 1 : Nat) : Int) ≤ d.b.w; omega), sub_of [(0, some 0), (1, some 1), (2, some 2), (3, some 3), (4, some 4), (5, some 5)] rfl rfl rfl
          ⟨congrArg (fun n => some (i64 n)) (show (j : Int) + 1 = ((j + 1 : Nat) : Int) by omega), rfl, rfl, rfl, rfl, rfl, rfl, rfl, rfl, rfl, rfl, trivial⟩
          ⟨rfl, congrArg (fun l => some (Mem.arr 57 pixE 4 l)) (by rw [eij]; exact mix_step k1 (by omega)), rfl, rfl, rfl, rfl, trivial⟩, (by dsimp only; omega)⟩
    · have hjw : j = d.b.w.toNat := by omega
      refine Ar.fit (by omega) ?_
      refine ⟨i + 1, (by show ((i + 1 : Nat) : Int) ≤ d.b.h; omega), sub_of [(0, some 0), (1, some 1), (2, some 2), (3, some 3), (4, some 4), (5, some 5)] rfl rfl rfl
        ⟨congrArg (fun n => some (i64 n)) (show (i : Int) + 1 = ((i + 1 : Nat) : Int) by omega), rfl, rfl, rfl, rfl, rfl, rfl, rfl, trivial⟩
        ⟨rfl, congrArg (fun l => some (Mem.arr 57 pixE 4 l)) (by rw [hjw, mix_row]), rfl, rfl, rfl, rfl, trivial⟩, (by dsimp only; omega)⟩
  · have hih : i = d.b.h.toNat := by omega
    exact ⟨some 4, take_tup (.cons (take_agg (.cons (take_int rfl) (.cons (take_int rfl) (.cons (take_int rfl) (.cons (take_int rfl) (.cons (.own _ rfl) .nil)))))) (.cons (take_int rfl) .nil)), by rw [hih, ← mix_full hc hl]; rfl, fun _ _ => rfl⟩

set_option maxRecDepth 100000 in
set_option maxHeartbeats 4000000 in
theorem p_withD (cs : List SV) (f : Int → Int → Pix) (hat : ∀ x y : Int, CallsG Tryz.prog 45 [.dptr cs, i64 x, i64 y] [] (.agg (pixE (f x y))) []) (f8 : ∀ x y, P8 (f x y))
    (d : Bm) (m : Mk) (mode : Int) (d8 : B8 d) (m8 : ∀ c ∈ m.cv, R8 c) :
    CallsG Tryz.prog 14 [.agg (bmE d), .agg (mkE m), .dptr cs, i64 mode] [] (bmR (withB f d m mode)) [(0, .arr 57 pixE 4 (withB f d m mode).1.px)] := by
  generalize hq : withB f d m mode = q
  refine calls_own tok mix Tryz.func14 rfl rfl rfl ?_
  refine CallV.to _ (p_bvalid d) rfl ?_
  refine Br.mk (fun h1 => ⟨none, bad_bm (q := q) (e := 15) (by rw [← hq, withB, if_pos h1])⟩) (fun h1 => ?_)
  refine CallV.to _ (p_mvalid m) rfl ?_
  refine Br.mk (fun h2 => ⟨none, bad_bm (q := q) (e := 14) (by rw [← hq, withB, if_neg h1, if_pos h2])⟩) (fun h2 => ?_)
  refine CallV.to _ (p_over0 mode) rfl ?_
  have hno2 : (¬ (if modeOK mode then (0 : Int) else 2) = 0) → ¬ modeOK mode := fun k h => k (if_pos h)
  refine Br.mk (fun h3 => ⟨none, bad_bm (q := q) (e := if modeOK mode then 0 else 2) (by rw [← hq, withB, if_neg h1, if_neg h2, if_pos (hno2 h3), if_neg (hno2 h3)])⟩) (fun h3 => ?_)
  have h3 : modeOK mode := by
    refine Decidable.not_not.1 fun k => h3 ?_
    rw [if_neg k]; decide
  obtain ⟨g, hg⟩ : ∃ g : Int → Int → Pix, g = (fun x y => coverP mode (f x y) (d.at_ x y) (m.at_ x y)) := ⟨_, rfl⟩
  have e : q = (⟨d.b, grid d.b g⟩, 0) := by rw [← hq, withB, if_neg h1, if_neg h2, if_neg (fun k => k h3), hg]
  have hcov : ∀ x y : Int, CallsG Tryz.prog 44 [i64 mode, .agg (pixE (f x y)), .agg (pixE (d.at_ x y)), u8 (m.at_ x y)] [] (.agg (pixE (g x y))) [] := fun x y => hg ▸ p_cover mode (f x y) (d.at_ x y) (m.at_ x y) (f8 x y) (Bm.at_8 d8 x y) (Mk.at_8 m8 x y)
  have hcov0 : ∀ x y : Int, ¬ m.b.has x y → CallsG Tryz.prog 44 [i64 mode, .agg (pixE (f x y)), .agg (pixE (d.at_ x y)), u8 0] [] (.agg (pixE (g x y))) [] := fun x y k => by
    have := hcov x y
    rw [show m.at_ x y = 0 by unfold Mk.at_; rw [if_neg k]] at this
    exact this
  have hd := Decidable.not_not.1 h1
  have hm := Decidable.not_not.1 h2
  have hc := hd.1
  have hA := hd.2.1
  have hl := hd.2.2.1
  have hml := hm.2.2
  have hmA := hm.2.1
  clear hg hq
  subst e
  have hsd := Rc.sides hc
  unfold inRc at hsd
  have ew : d.b.w = d.b.x1 - d.b.x0 := rfl
  have eh : d.b.h = d.b.y1 - d.b.y0 := rfl
  refine Dr.dyn (Ob.mk (by decide +kernel) ?_)
  intro hl0
  refine ⟨Pix, pixE, zeroP, rfl, Ob.mk ⟨by decide, by omega, by omega, (by show (d.px.length : Int) * ((4 : Nat) : Int) ≤ _; omega), by omega⟩ ?_⟩
  refine Ob.mk (by kernel_rfl) ?_
  refine ⟨d.px, rfl, Ob.mk ⟨by decide, by omega, by omega, by simp, fun _ _ => rfl⟩ ?_⟩
  refine CallV.to _ (p_fhigh d.b hc) rfl ?_
  refine ⟨Nat, fun i => ⟨[(56, i64 (i : Int)), (55, i64 (d.b.y1 - d.b.y0)), (3, i64 mode), (2, .dptr cs), (4, .loc 0 0), (5, .loc 1 0), (8, .loc 2 0), (12, .loc 5 0)], [(5, .box 26 [i64 d.b.x0, i64 d.b.y0, i64 d.b.x1, i64 d.b.y1, .own 4]), (4, .arr 57 pixE 4 (gridN d.b g (i * d.b.w.toNat) ++ d.px.drop (i * d.b.w.toNat))), (3, .box 26 (bmE zeroB)), (2, .box 26 nilB), (1, .box 29 (mkE m)), (0, .box 26 (bmE d))], 6, 115, 0⟩,
    fun i => (i : Int) ≤ d.b.h, fun i => (d.b.h - i).toNat, 0, ?_, ?_, ?_⟩
  · show (0 : Int) ≤ d.b.h; omega
  · exact sub_of [(0, some 0), (1, some 1), (2, some 2), (3, some 3), (4, some 4), (5, some 5)] rfl rfl rfl ⟨rfl, rfl, rfl, rfl, rfl, rfl, rfl, rfl, trivial⟩ ⟨rfl, congrArg (fun l => some (Mem.arr 57 pixE 4 l)) ((copy_all zeroP (by omega)).trans (by rw [Nat.zero_mul]; rfl)), rfl, rfl, rfl, rfl, trivial⟩
  rintro i hi
  have hi : (i : Int) ≤ d.b.h := hi
  refine Br.mk (fun g9 => ?_) (fun g9 => ?_)
  · have g9 : (i : Int) < d.b.h := by omega
    refine CallV.to _ (p_fwide d.b hc) rfl ?_
    refine ⟨Nat, fun j => ⟨[(62, i64 (j : Int)), (61, i64 (d.b.x1 - d.b.x0)), (13, i64 (i : Int)), (56, i64 (i : Int)), (55, i64 (d.b.y1 - d.b.y0)), (3, i64 mode), (2, .dptr cs), (4, .loc 0 0), (5, .loc 1 0), (8, .loc 2 0), (12, .loc 5 0)], [(5, .box 26 [i64 d.b.x0, i64 d.b.y0, i64 d.b.x1, i64 d.b.y1, .own 4]), (4, .arr 57 pixE 4 (gridN d.b g (i * d.b.w.toNat + j) ++ d.px.drop (i * d.b.w.toNat + j))), (3, .box 26 (bmE zeroB)), (2, .box 26 nilB), (1, .box 29 (mkE m)), (0, .box 26 (bmE d))], 6, 115, 0⟩,
      fun j => (j : Int) ≤ d.b.w, fun j => (d.b.w - j).toNat, 0, ?_, ?_, ?_⟩
    · show (0 : Int) ≤ d.b.w; omega
    · exact sub_of [(0, some 0), (1, some 1), (2, some 2), (3, some 3), (4, some 4), (5, some 5)] rfl rfl rfl ⟨rfl, rfl, rfl, rfl, rfl, rfl, rfl, rfl, rfl, rfl, rfl, trivial⟩ ⟨rfl, rfl, rfl, rfl, rfl, rfl, trivial⟩
    rintro j hj
    have hj : (j : Int) ≤ d.b.w := hj
    refine Br.mk (fun k1 => ?_) (fun k1 => ?_)
    · have k1 : (j : Int) < d.b.w := by omega
      have hpl := grid_place hc g9 k1
      have hij := hpl.2.1
      have eij : ((i : Int) * (d.b.x1 - d.b.x0) + j).toNat = i * d.b.w.toNat + j := by
        rw [← ew, show (i : Int) * d.b.w + j = ((i * d.b.w.toNat + j : Nat) : Int) by rw [Int.natCast_add, Int.natCast_mul, Int.toNat_of_nonneg (by omega)]]; rfl
      have hidx : d.b.idx (d.b.x0 + j) (d.b.y0 + i) = (i : Int) * (d.b.x1 - d.b.x0) + j := by
        rw [(Rc.idx_has hpl.1).1, ← ew, show d.b.y0 + (i : Int) - d.b.y0 = i by omega, show d.b.x0 + (j : Int) - d.b.x0 = j by omega]
      have hr := Rc.idx_has hpl.1
      rw [hidx] at hr
      have hlen : (gridN d.b g (i * d.b.w.toNat + j) ++ d.px.drop (i * d.b.w.toNat + j)).length = d.px.length := by
        rw [List.length_append, gridN_len, List.length_drop]; omega
      have hmb := mulb (a := (i : Int)) (b := d.b.x1 - d.b.x0) (A := 8192) (B := 8192) (by omega) (by omega) (by omega) (by omega)
      refine Dr.dyn (Ob.mk (by decide +kernel) ?_)
      refine Ar.fit (by omega) ?_
      refine Ar.fit (by omega) ?_
      refine Ob.mk (by kernel_rfl) ?_
      refine CallV.to _ (p_fwide d.b hc) rfl ?_
      refine Ar.fit (by omega) ?_
      refine Ar.fit (by omega) ?_
      refine CallV.to _ (p_findex m.b hm.1 (d.b.x0 + j) (d.b.y0 + i)) rfl ?_
      refine Br.mk (fun hy => ?_) (fun hno => ?_)
      · have hr2 := Rc.idx_has hy
        have ei : (if m.b.has (d.b.x0 + j) (d.b.y0 + i) then m.b.idx (d.b.x0 + j) (d.b.y0 + i) else 0) = m.b.idx (d.b.x0 + j) (d.b.y0 + i) := if_pos hy
        refine Ob.mk (by rw [ei]; omega) ?_
        rw [ei]
        intro v hv
        obtain rfl := place_cv hm hy rfl hv
        refine Dr.dyn (Ob.mk (by decide +kernel) ?_)
        refine CallV.to _ (hat (d.b.x0 + j) (d.b.y0 + i)) rfl ?_
        refine Ob.mk (by omega) ?_
        intro q hq
        obtain rfl := place_px hd hpl.1 hidx hq
        refine CallV.to _ (hcov (d.b.x0 + j) (d.b.y0 + i)) rfl ?_
        refine Ob.mk (by omega) ?_
        refine Ob.mk (by omega) ?_
        intro q hq
        refine ⟨g (d.b.x0 + j) (d.b.y0 + i), rfl, ?_⟩
        refine Ob.mk (by kernel_rfl) ?_
        refine Ar.fit (by omega) ?_
        refine ⟨j + 1, (by show ((j + 1 : Nat) : Int) ≤ d.b.w; omega), sub_of [(0, some 0), (1, some 1), (2, some 2), (3, some 3), (4, some 4), (5, some 5)] rfl rfl rfl
          ⟨congrArg (fun n => some (i64 n)) (show (j : Int) + 1 = ((j + 1 : Nat) : Int) by omega), rfl, rfl, rfl, rfl, rfl, rfl, rfl, rfl, rfl, rfl, trivial⟩
          ⟨rfl, congrArg (fun l => some (Mem.arr 57 pixE 4 l)) (by rw [eij]; exact mix_step k1 (by omega)), rfl, rfl, rfl, rfl, trivial⟩, (by dsimp only; omega)⟩
      · 
        refine Dr.dyn (Ob.mk (by decide +kernel) ?_)
        refine CallV.to _ (hat (d.b.x0 + j) (d.b.y0 + i)) rfl ?_
        refine Ob.mk (by omega) ?_
        intro q hq
        obtain rfl := place_px hd hpl.1 hidx hq
        refine CallV.to _ (hcov0 (d.b.x0 + j) (d.b.y0 + i) hno) rfl ?_
        refine Ob.mk (by omega) ?_
        refine Ob.mk (by omega) ?_
        intro q hq
        refine ⟨g (d.b.x0 + j) (d.b.y0 + i), rfl, ?_⟩
        refine Ob.mk (by kernel_rfl) ?_
        refine Ar.fit (by omega) ?_
        refine ⟨j + 1, (by show ((j + 1 : Nat) : Int) ≤ d.b.w; omega), sub_of [(0, some 0), (1, some 1), (2, some 2), (3, some 3), (4, some 4), (5, some 5)] rfl rfl rfl
          ⟨congrArg (fun n => some (i64 n)) (show (j : Int) + 1 = ((j + 1 : Nat) : Int) by omega), rfl, rfl, rfl, rfl, rfl, rfl, rfl, rfl, rfl, rfl, trivial⟩
          ⟨rfl, congrArg (fun l => some (Mem.arr 57 pixE 4 l)) (by rw [eij]; exact mix_step k1 (by omega)), rfl, rfl, rfl, rfl, trivial⟩, (by dsimp only; omega)⟩
    · have hjw : j = d.b.w.toNat := by omega
      refine Ar.fit (by omega) ?_
      refine ⟨i + 1, (by show ((i + 1 : Nat) : Int) ≤ d.b.h; omega), sub_of [(0, some 0), (1, some 1), (2, some 2), (3, some 3), (4, some 4), (5, some 5)] rfl rfl rfl
        ⟨congrArg (fun n => some (i64 n)) (show (i : Int) + 1 = ((i + 1 : Nat) : Int) by omega), rfl, rfl, rfl, rfl, rfl, rfl, rfl, trivial⟩
        ⟨rfl, congrArg (fun l => some (Mem.arr 57 pixE 4 l)) (by rw [hjw, mix_row]), rfl, rfl, rfl, rfl, trivial⟩, (by dsimp only; omega)⟩
  · have hih : i = d.b.h.toNat := by omega
    exact ⟨some 4, take_tup (.cons (take_agg (.cons (take_int rfl) (.cons (take_int rfl) (.cons (take_int rfl) (.cons (take_int rfl) (.cons (.own _ rfl) .nil)))))) (.cons (take_int rfl) .nil)), by rw [hih, ← mix_full hc hl]; rfl, fun _ _ => rfl⟩

end Go.Gs
/- The bitmap of a brush; a repeated image; the program's. -/
namespace Go.Gs
open Go.Proofs

theorem mixN_step {r : Rc} {g : Int → Int → Pix} {px : List Pix} {n : Nat} (hl : n < px.length) :
    (gridN r g n ++ px.drop n).set n (g (r.x0 + (n : Int) % r.w) (r.y0 + (n : Int) / r.w)) = gridN r g (n + 1) ++ px.drop (n + 1) := by
  rw [gridN_succ, List.set_append_right _ _ (by rw [gridN_len]; omega), gridN_len, Nat.sub_self, List.drop_eq_getElem_cons hl, List.set_cons_zero, List.append_assoc]
  rfl
theorem mixN_full {r : Rc} {g : Int → Int → Pix} {px : List Pix} (hl : (px.length : Int) = r.area) : gridN r g px.length ++ px.drop px.length = grid r g := by
  rw [List.drop_length, List.append_nil]
  unfold grid
  rw [show r.area.toNat = px.length by omega]
theorem place_n {r : Rc} (h : r.canon = r) {n : Nat} (hn : (n : Int) < r.area) : r.has (r.x0 + (n : Int) % (r.x1 - r.x0)) (r.y0 + (n : Int) / (r.x1 - r.x0)) ∧ r.idx (r.x0 + (n : Int) % (r.x1 - r.x0)) (r.y0 + (n : Int) / (r.x1 - r.x0)) = n := by
  have := Rc.place (r := r) (i := n) (by omega) hn
  rw [h] at this
  exact this
/-- A pixel of an image. -/
def imP (m : Img) (c r : Int) : Pix := (m.px[(r * m.w + c).toNat]?).getD zeroP
def tiledB (d : Bm) (m : Img) (dx dy : Int) : Bm × Int :=
  if ¬ d.ok then (zeroB, 15) else if ¬ imgOK m then (zeroB, 16) else if ¬ (inRc dx ∧ inRc dy) then (zeroB, 6)
  else (⟨d.b, grid d.b fun x y => coverP 1 (imP m ((x - dx) % m.w) ((y - dy) % m.h)) (d.at_ x y) 255⟩, 0)
theorem imP_8 {m : Img} (h8 : ∀ q ∈ m.px, P8 q) (c r : Int) : P8 (imP m c r) := by
  unfold imP
  cases hq : m.px[(r * m.w + c).toNat]? with
  | none => exact zero_8
  | some p => exact h8 p (List.mem_of_getElem? hq)
theorem imP_get {m : Img} {c r : Int} {q : Pix} (hq : m.px[(r * m.w + c).toNat]? = some q) : q = imP m c r := by
  unfold imP; rw [hq]; rfl

set_option maxRecDepth 100000 in
set_option maxHeartbeats 4000000 in
theorem p_brushNil  (f : Int → Int → Pix) (hat : ∀ x y : Int, CallsG Tryz.prog 45 [nilP, i64 x, i64 y] [] (.agg (pixE (f x y))) []) (r : Rc) :
    CallsG Tryz.prog 21 [.agg (rcE r), nilP] [] (bmR (brushB f r)) [(0, .arr 57 pixE 4 (brushB f r).1.px)] := by
  generalize hq : brushB f r = q
  have pn := p_new r zeroP
  by_cases h1 : ¬ r.ok
  · rw [newBm, if_pos h1] at pn
    have e : q = (zeroB, 6) := by rw [← hq, brushB, if_pos h1]
    refine calls_own tok mix Tryz.func21 rfl rfl rfl ?_
    refine CallV.fresh _ _ pn rfl (fun _ _ => rfl) (.inr (fun _ _ => rfl)) ?_
    exact Br.mk (fun _ => ⟨none, bad_bm (q := q) (e := 6) e⟩) (fun h => absurd (show ¬ ((6 : Int) = 0) by decide) h)
  by_cases h2 : 65536 < r.area
  · rw [newBm, if_neg h1, if_pos h2] at pn
    have e : q = (zeroB, 5) := by rw [← hq, brushB, if_neg h1, if_pos h2]
    refine calls_own tok mix Tryz.func21 rfl rfl rfl ?_
    refine CallV.fresh _ _ pn rfl (fun _ _ => rfl) (.inr (fun _ _ => rfl)) ?_
    exact Br.mk (fun _ => ⟨none, bad_bm (q := q) (e := 5) e⟩) (fun h => absurd (show ¬ ((5 : Int) = 0) by decide) h)
  have e : q = (⟨r.canon, grid r.canon f⟩, 0) := by rw [← hq, brushB, if_neg h1, if_neg h2]
  rw [newBm, if_neg h1, if_neg h2] at pn
  have hA : r.area ≤ 65536 := by omega
  have hc := r.canon_canon
  have eA : r.canon.area = r.area := by unfold Rc.area; rw [hc]
  rw [← eA] at hA
  clear eA hq
  subst e
  generalize r.canon = c at *
  have hsd := Rc.sides hc
  unfold inRc at hsd
  have ew : c.w = c.x1 - c.x0 := rfl
  have eh : c.h = c.y1 - c.y0 := rfl
  have hbl : (grid c (fun _ _ => clampP zeroP)).length = c.area.toNat := grid_len _ _
  have hAr := c.area_range
  dsimp only at pn
  generalize grid c (fun _ _ => clampP zeroP) = px at *
  refine calls_own tok mix Tryz.func21 rfl rfl rfl ?_
  refine CallV.fresh _ _ pn rfl (fun _ _ => rfl) (.inr (fun _ _ => rfl)) ?_
  refine Br.mk (fun h => absurd rfl h) (fun _ => ?_)
  intro hl0
  refine ⟨Nat, fun n => ⟨[(22, i64 (n : Int)), (21, i64 px.length), (1, nilP), (2, .loc 0 0), (4, .loc 1 0), (6, .loc 3 0)], [(3, .box 26 [i64 c.x0, i64 c.y0, i64 c.x1, i64 c.y1, .own 2]), (2, .arr 57 pixE 4 (gridN c f n ++ px.drop n)), (1, .box 26 nilB), (0, .box 23 (rcE r))], 4, 51, 0⟩,
    fun n => n ≤ px.length, fun n => px.length - n, 0, ?_, ?_, ?_⟩
  · exact Nat.zero_le _
  · exact sub_of [(0, some 0), (1, some 1), (2, some 2), (3, some 3)] rfl rfl rfl ⟨rfl, rfl, rfl, rfl, rfl, rfl, trivial⟩ ⟨rfl, rfl, rfl, rfl, trivial⟩
  rintro n hn
  have hn : n ≤ px.length := hn
  refine Br.mk (fun g9 => ?_) (fun g9 => ?_)
  · have g9 : (n : Int) < c.area := by omega
    have hpl := (place_n hc g9).1
    have hb := (Rc.has_canon c _ _).1 hpl
    rw [hc] at hb
    have hn0 : c.x1 - c.x0 ≠ 0 := fun k => by rw [k] at hb; omega
    have hlen : (gridN c f n ++ px.drop n).length = px.length := by
      rw [List.length_append, gridN_len, List.length_drop]; omega
    refine Dr.dyn (Ob.mk (by decide +kernel) ?_)
    refine CallV.to _ (p_fwide c hc) rfl ?_
    refine Dv.pos ⟨by omega, by omega⟩ ?_
    refine Ar.fit (by omega) ?_
    refine CallV.to _ (p_fwide c hc) rfl ?_
    refine Dv.pos ⟨by omega, by omega, by show _ ≤ (9223372036854775807 : Int); omega⟩ ?_
    refine Ar.fit (by omega) ?_
    refine CallV.to _ (hat _ _) rfl ?_
    refine Ob.mk (by omega) ?_
    refine Ob.mk (by omega) ?_
    intro q hq
    refine ⟨f (c.x0 + (n : Int) % (c.x1 - c.x0)) (c.y0 + (n : Int) / (c.x1 - c.x0)), rfl, ?_⟩
    refine Ob.mk (by kernel_rfl) ?_
    refine Ar.fit (by omega) ?_
    exact ⟨n + 1, (by show n + 1 ≤ px.length; omega), sub_of [(0, some 0), (1, some 1), (2, some 2), (3, some 3)] rfl rfl rfl ⟨congrArg (fun n => some (i64 n)) (show (n : Int) + 1 = ((n + 1 : Nat) : Int) by omega), rfl, rfl, rfl, rfl, rfl, trivial⟩ ⟨rfl, congrArg (fun l => some (Mem.arr 57 pixE 4 l)) (mixN_step (by omega)), rfl, rfl, trivial⟩, by dsimp only; omega⟩
  · have hih : n = px.length := by omega
    exact ⟨some 2, take_tup (.cons (take_agg (.cons (take_int rfl) (.cons (take_int rfl) (.cons (take_int rfl) (.cons (take_int rfl) (.cons (.own _ rfl) .nil)))))) (.cons (take_int rfl) .nil)), by rw [hih, ← mixN_full (px := px) (by omega)]; rfl, fun _ _ => rfl⟩

set_option maxRecDepth 100000 in
set_option maxHeartbeats 4000000 in
theorem p_brushD (cs : List SV) (f : Int → Int → Pix) (hat : ∀ x y : Int, CallsG Tryz.prog 45 [.dptr cs, i64 x, i64 y] [] (.agg (pixE (f x y))) []) (r : Rc) :
    CallsG Tryz.prog 21 [.agg (rcE r), .dptr cs] [] (bmR (brushB f r)) [(0, .arr 57 pixE 4 (brushB f r).1.px)] := by
  generalize hq : brushB f r = q
  have pn := p_new r zeroP
  by_cases h1 : ¬ r.ok
  · rw [newBm, if_pos h1] at pn
    have e : q = (zeroB, 6) := by rw [← hq, brushB, if_pos h1]
    refine calls_own tok mix Tryz.func21 rfl rfl rfl ?_
    refine CallV.fresh _ _ pn rfl (fun _ _ => rfl) (.inr (fun _ _ => rfl)) ?_
    exact Br.mk (fun _ => ⟨none, bad_bm (q := q) (e := 6) e⟩) (fun h => absurd (show ¬ ((6 : Int) = 0) by decide) h)
  by_cases h2 : 65536 < r.area
  · rw [newBm, if_neg h1, if_pos h2] at pn
    have e : q = (zeroB, 5) := by rw [← hq, brushB, if_neg h1, if_pos h2]
    refine calls_own tok mix Tryz.func21 rfl rfl rfl ?_
    refine CallV.fresh _ _ pn rfl (fun _ _ => rfl) (.inr (fun _ _ => rfl)) ?_
    exact Br.mk (fun _ => ⟨none, bad_bm (q := q) (e := 5) e⟩) (fun h => absurd (show ¬ ((5 : Int) = 0) by decide) h)
  have e : q = (⟨r.canon, grid r.canon f⟩, 0) := by rw [← hq, brushB, if_neg h1, if_neg h2]
  rw [newBm, if_neg h1, if_neg h2] at pn
  have hA : r.area ≤ 65536 := by omega
  have hc := r.canon_canon
  have eA : r.canon.area = r.area := by unfold Rc.area; rw [hc]
  rw [← eA] at hA
  clear eA hq
  subst e
  generalize r.canon = c at *
  have hsd := Rc.sides hc
  unfold inRc at hsd
  have ew : c.w = c.x1 - c.x0 := rfl
  have eh : c.h = c.y1 - c.y0 := rfl
  have hbl : (grid c (fun _ _ => clampP zeroP)).length = c.area.toNat := grid_len _ _
  have hAr := c.area_range
  dsimp only at pn
  generalize grid c (fun _ _ => clampP zeroP) = px at *
  refine calls_own tok mix Tryz.func21 rfl rfl rfl ?_
  refine CallV.fresh _ _ pn rfl (fun _ _ => rfl) (.inr (fun _ _ => rfl)) ?_
  refine Br.mk (fun h => absurd rfl h) (fun _ => ?_)
  intro hl0
  refine ⟨Nat, fun n => ⟨[(22, i64 (n : Int)), (21, i64 px.length), (1, .dptr cs), (2, .loc 0 0), (4, .loc 1 0), (6, .loc 3 0)], [(3, .box 26 [i64 c.x0, i64 c.y0, i64 c.x1, i64 c.y1, .own 2]), (2, .arr 57 pixE 4 (gridN c f n ++ px.drop n)), (1, .box 26 nilB), (0, .box 23 (rcE r))], 4, 51, 0⟩,
    fun n => n ≤ px.length, fun n => px.length - n, 0, ?_, ?_, ?_⟩
  · exact Nat.zero_le _
  · exact sub_of [(0, some 0), (1, some 1), (2, some 2), (3, some 3)] rfl rfl rfl ⟨rfl, rfl, rfl, rfl, rfl, rfl, trivial⟩ ⟨rfl, rfl, rfl, rfl, trivial⟩
  rintro n hn
  have hn : n ≤ px.length := hn
  refine Br.mk (fun g9 => ?_) (fun g9 => ?_)
  · have g9 : (n : Int) < c.area := by omega
    have hpl := (place_n hc g9).1
    have hb := (Rc.has_canon c _ _).1 hpl
    rw [hc] at hb
    have hn0 : c.x1 - c.x0 ≠ 0 := fun k => by rw [k] at hb; omega
    have hlen : (gridN c f n ++ px.drop n).length = px.length := by
      rw [List.length_append, gridN_len, List.length_drop]; omega
    refine Dr.dyn (Ob.mk (by decide +kernel) ?_)
    refine CallV.to _ (p_fwide c hc) rfl ?_
    refine Dv.pos ⟨by omega, by omega⟩ ?_
    refine Ar.fit (by omega) ?_
    refine CallV.to _ (p_fwide c hc) rfl ?_
    refine Dv.pos ⟨by omega, by omega, by show _ ≤ (9223372036854775807 : Int); omega⟩ ?_
    refine Ar.fit (by omega) ?_
    refine CallV.to _ (hat _ _) rfl ?_
    refine Ob.mk (by omega) ?_
    refine Ob.mk (by omega) ?_
    intro q hq
    refine ⟨f (c.x0 + (n : Int) % (c.x1 - c.x0)) (c.y0 + (n : Int) / (c.x1 - c.x0)), rfl, ?_⟩
    refine Ob.mk (by kernel_rfl) ?_
    refine Ar.fit (by omega) ?_
    exact ⟨n + 1, (by show n + 1 ≤ px.length; omega), sub_of [(0, some 0), (1, some 1), (2, some 2), (3, some 3)] rfl rfl rfl ⟨congrArg (fun n => some (i64 n)) (show (n : Int) + 1 = ((n + 1 : Nat) : Int) by omega), rfl, rfl, rfl, rfl, rfl, trivial⟩ ⟨rfl, congrArg (fun l => some (Mem.arr 57 pixE 4 l)) (mixN_step (by omega)), rfl, rfl, trivial⟩, by dsimp only; omega⟩
  · have hih : n = px.length := by omega
    exact ⟨some 2, take_tup (.cons (take_agg (.cons (take_int rfl) (.cons (take_int rfl) (.cons (take_int rfl) (.cons (take_int rfl) (.cons (.own _ rfl) .nil)))))) (.cons (take_int rfl) .nil)), by rw [hih, ← mixN_full (px := px) (by omega)]; rfl, fun _ _ => rfl⟩

set_option maxRecDepth 100000 in
set_option maxHeartbeats 4000000 in
theorem p_tiled (d : Bm) (m : Img) (dx dy : Int) (d8 : B8 d) (h8 : ∀ q ∈ m.px, P8 q) (hl1 : d.px.length ≤ 1000) (hl2 : m.px.length ≤ 9223372036854775807) :
    CallsG Tryz.prog 28 [.agg (bmE d), .agg (imgE m), i64 dx, i64 dy] [] (bmR (tiledB d m dx dy)) [(0, .arr 57 pixE 4 (tiledB d m dx dy).1.px)] := by
  generalize hq : tiledB d m dx dy = q
  refine calls_own tok mix Tryz.func28 rfl rfl rfl ?_
  refine CallV.to _ (p_bvalid d) rfl ?_
  refine Br.mk (fun h1 => ⟨none, bad_bm (q := q) (e := 15) (by rw [← hq, tiledB, if_pos h1])⟩) (fun h1 => ?_)
  refine CallV.to _ (c_valid m hl2) rfl ?_
  refine Br.mk (fun h2 => ⟨none, bad_bm (q := q) (e := 16) (by rw [← hq, tiledB, if_neg h1, if_pos h2])⟩) (fun h2 => ?_)
  refine CallV.to _ (p_reach dx) rfl ?_
  refine Br.mk (fun h3 => ⟨none, bad_bm (q := q) (e := 6) (by rw [← hq, tiledB, if_neg h1, if_neg h2, if_pos (fun k => h3 k.1)])⟩) (fun h3 => ?_)
  refine CallV.to _ (p_reach dy) rfl ?_
  refine Br.mk (fun h4 => ⟨none, bad_bm (q := q) (e := 6) (by rw [← hq, tiledB, if_neg h1, if_neg h2, if_pos (fun k => h4 k.2)])⟩) (fun h4 => ?_)
  have h34 : inRc dx ∧ inRc dy := ⟨Decidable.not_not.1 h3, Decidable.not_not.1 h4⟩
  obtain ⟨g, hg⟩ : ∃ g : Int → Int → Pix, g = (fun x y => coverP 1 (imP m ((x - dx) % m.w) ((y - dy) % m.h)) (d.at_ x y) 255) := ⟨_, rfl⟩
  have e : q = (⟨d.b, grid d.b g⟩, 0) := by rw [← hq, tiledB, if_neg h1, if_neg h2, if_neg (fun k => k h34), hg]
  have hcov : ∀ x y : Int, CallsG Tryz.prog 44 [i64 1, .agg (pixE (imP m ((x - dx) % m.w) ((y - dy) % m.h))), .agg (pixE (d.at_ x y)), u8 255] [] (.agg (pixE (g x y))) [] := fun x y => hg ▸ p_cover 1 (imP m ((x - dx) % m.w) ((y - dy) % m.h)) (d.at_ x y) 255 (imP_8 h8 _ _) (Bm.at_8 d8 x y) (by show R8 255; decide)
  have hd := Decidable.not_not.1 h1
  obtain ⟨⟨m1, m2⟩, ⟨m3, m4⟩, m5, m6, _⟩ := Decidable.not_not.1 h2
  have hc := hd.1
  have hA := hd.2.1
  have hl := hd.2.2.1
  clear hg hq
  subst e
  unfold inRc at h34
  have hsd := Rc.sides hc
  unfold inRc at hsd
  have ew : d.b.w = d.b.x1 - d.b.x0 := rfl
  have eh : d.b.h = d.b.y1 - d.b.y0 := rfl
  refine Dr.dyn (Ob.mk (by decide +kernel) ?_)
  refine CallV.fresh _ _ (c_pxclone d.px hl1) rfl (fun _ _ => rfl) (.inr (fun _ _ => rfl)) ?_
  refine Ob.mk (by kernel_rfl) ?_
  intro hl0
  refine ⟨Nat, fun n => ⟨[(46, i64 (n : Int)), (45, i64 d.px.length), (44, .sl pixE d.px), (2, i64 dx), (3, i64 dy), (4, .loc 0 0), (5, .loc 1 0), (8, .loc 2 0), (10, .loc 4 0)], [(4, .box 26 [i64 d.b.x0, i64 d.b.y0, i64 d.b.x1, i64 d.b.y1, .own 3]), (3, .arr 57 pixE 4 (gridN d.b g n ++ d.px.drop n)), (2, .box 26 nilB), (1, .box 36 (imgE m)), (0, .box 26 (bmE d))], 5, 99, 0⟩,
    fun n => n ≤ d.px.length, fun n => d.px.length - n, 0, ?_, ?_, ?_⟩
  · exact Nat.zero_le _
  · exact sub_of [(0, some 0), (1, some 1), (2, some 2), (3, some 3), (4, some 4)] rfl rfl rfl ⟨rfl, rfl, rfl, rfl, rfl, rfl, rfl, rfl, rfl, trivial⟩ ⟨rfl, rfl, rfl, rfl, rfl, trivial⟩
  rintro n hn
  have hn : n ≤ d.px.length := hn
  refine Br.mk (fun g9 => ?_) (fun g9 => ?_)
  · have g9 : (n : Int) < d.b.area := by omega
    have hpl := place_n hc g9
    have hb := (Rc.has_canon d.b _ _).1 hpl.1
    rw [hc] at hb
    have hn0 : d.b.x1 - d.b.x0 ≠ 0 := fun k => by rw [k] at hb; omega
    have hlen : (gridN d.b g n ++ d.px.drop n).length = d.px.length := by
      rw [List.length_append, gridN_len, List.length_drop]; omega
    obtain ⟨X, hX⟩ : ∃ X, X = d.b.x0 + (n : Int) % (d.b.x1 - d.b.x0) := ⟨_, rfl⟩
    obtain ⟨Y, hY⟩ : ∃ Y, Y = d.b.y0 + (n : Int) / (d.b.x1 - d.b.x0) := ⟨_, rfl⟩
    refine Ob.mk (by omega) ?_
    intro q hq
    obtain rfl := place_px hd hpl.1 hpl.2 hq
    refine Dr.dyn (Ob.mk (by decide +kernel) ?_)
    refine CallV.to _ (p_fwide d.b hc) rfl ?_
    refine Dv.pos ⟨by omega, by omega⟩ ?_
    refine Ar.fit (by omega) ?_
    refine CallV.to _ (p_fwide d.b hc) rfl ?_
    refine Dv.pos ⟨by omega, by omega, by show _ ≤ (9223372036854775807 : Int); omega⟩ ?_
    refine Ar.fit (by omega) ?_
    refine Ob.mk (by kernel_rfl) ?_
    have xb : -8192 ≤ X ∧ X ≤ 8192 := by rw [hX]; omega
    have yb : -8192 ≤ Y ∧ Y ≤ 8192 := by rw [hY]; omega
    rw [← hX, ← hY]
    have hu := Int.emod_nonneg (X - dx) (show m.w ≠ 0 by omega)
    have hu2 := Int.emod_lt_of_pos (X - dx) (show 0 < m.w by omega)
    have hv := Int.emod_nonneg (Y - dy) (show m.h ≠ 0 by omega)
    have hv2 := Int.emod_lt_of_pos (Y - dy) (show 0 < m.h by omega)
    have hix := idx_lt hu hu2 hv hv2
    have hmb := mulb hv (Int.le_of_lt hv2) (show 0 ≤ m.w by omega) (Int.le_refl _)
    refine Dr.dyn (Ob.mk (by decide +kernel) ?_)
    refine Ar.fit (by omega) ?_
    refine CallV.to _ (c_mod (X - dx) m.w (by unfold R64; omega) (by omega)) rfl ?_
    refine Ar.fit (by omega) ?_
    refine CallV.to _ (c_mod (Y - dy) m.h (by unfold R64; omega) (by omega)) rfl ?_
    refine Ob.mk (by kernel_rfl) ?_
    refine Dr.dyn (Ob.mk (by decide +kernel) ?_)
    refine Ar.fit (by omega) ?_
    refine Ar.fit (by omega) ?_
    refine Ob.mk (by omega) ?_
    intro z hz
    obtain rfl := imP_get hz
    refine CallV.to _ (hcov X Y) rfl ?_
    refine Ob.mk (by omega) ?_
    refine Ob.mk (by omega) ?_
    intro q hq
    refine ⟨g X Y, rfl, ?_⟩
    refine Ob.mk (by kernel_rfl) ?_
    refine Ar.fit (by omega) ?_
    exact ⟨n + 1, (by show n + 1 ≤ d.px.length; omega), sub_of [(0, some 0), (1, some 1), (2, some 2), (3, some 3), (4, some 4)] rfl rfl rfl ⟨congrArg (fun n => some (i64 n)) (show (n : Int) + 1 = ((n + 1 : Nat) : Int) by omega), rfl, rfl, rfl, rfl, rfl, rfl, rfl, rfl, trivial⟩ ⟨rfl, congrArg (fun l => some (Mem.arr 57 pixE 4 l)) (by rw [hX, hY]; exact mixN_step (r := d.b) (g := g) (px := d.px) (n := n) (by omega)), rfl, rfl, rfl, trivial⟩, by dsimp only; omega⟩
  · have hih : n = d.px.length := by omega
    exact ⟨some 3, take_tup (.cons (take_agg (.cons (take_int rfl) (.cons (take_int rfl) (.cons (take_int rfl) (.cons (take_int rfl) (.cons (.own _ rfl) .nil)))))) (.cons (take_int rfl) .nil)), by rw [hih, ← mixN_full (px := d.px) hl]; rfl, fun _ _ => rfl⟩

end Go.Gs
/- A part of a bitmap copied; the program's. -/
namespace Go.Gs
open Go.Proofs

theorem ite_iff {p q : Prop} [Decidable p] [Decidable q] {a b : Pix} (h : p ↔ q) : (if p then a else b) = if q then a else b := by
  by_cases hp : p
  · rw [if_pos hp, if_pos (h.1 hp)]
  · rw [if_neg hp, if_neg (fun k => hp (h.2 k))]
theorem meet_self (a b : Rc) : (a.meet b).canon = a.meet b := by
  unfold Rc.meet
  split
  · decide
  · exact Rc.canon_canon _
theorem meet_has (a b : Rc) (u v : Int) : (a.meet b).has u v ↔ a.has u v ∧ b.has u v := by
  unfold Rc.meet
  by_cases h : a.mt ∨ b.mt
  · rw [if_pos h]
    constructor
    · exact fun k => absurd zeroR_mt k.1
    · rintro ⟨k1, k2⟩
      exact absurd h (fun k => k.elim k1.1 k2.1)
  · rw [if_neg h, Rc.has_canon, Rc.canon_canon, ← Rc.has_canon]
    have ha : ¬ a.mt := fun k => h (.inl k)
    have hb : ¬ b.mt := fun k => h (.inr k)
    have na := Rc.notmt ha
    have nb := Rc.notmt hb
    unfold Rc.has
    simp only [ha, hb, not_false_eq_true, true_and]
    unfold Rc.mt Rc.ok inRc
    unfold Rc.ok inRc at na nb
    dsimp only
    omega
theorem grid_set {r : Rc} (hr : r.canon = r) {f : Int → Int → Pix} {u v : Int} (h : r.has u v) (a : Pix) :
    (grid r f).set (r.idx u v).toNat a = grid r (fun x y => if x = u ∧ y = v then a else f x y) := by
  have hi := Rc.idx_has h
  have ha := r.area_range
  refine List.ext_getElem? fun k => ?_
  rw [List.getElem?_set]
  by_cases e : (r.idx u v).toNat = k
  · subst e
    rw [if_pos rfl, if_pos (by rw [grid_len]; omega), grid_at h, if_pos ⟨rfl, rfl⟩]
  · rw [if_neg e]
    by_cases hk : (k : Int) < r.area
    · have hp := Rc.place (r := r) (i := k) (by omega) hk
      rw [hr] at hp
      unfold grid
      rw [gridN_at (by omega), gridN_at (by omega), if_neg]
      rintro ⟨e1, e2⟩
      rw [e1, e2] at hp
      have := hp.2; omega
    · rw [List.getElem?_eq_none (by rw [grid_len]; omega), List.getElem?_eq_none (by rw [grid_len]; omega)]

/-- What stands in 'd' after rows and columns of the part 'p' are copied. -/
def cpF (d s : Bm) (p r : Rc) (x y : Int) (i j : Int) (u v : Int) : Pix :=
  if p.has (u - x + r.x0) (v - y + r.y0) ∧ (v - y + r.y0 - p.y0 < i ∨ (v - y + r.y0 - p.y0 = i ∧ u - x + r.x0 - p.x0 < j)) then s.at_ (u - x + r.x0) (v - y + r.y0) else d.at_ u v
def copyF (d s : Bm) (r : Rc) (x y : Int) (u v : Int) : Pix :=
  if s.b.has (u - x + r.x0) (v - y + r.y0) ∧ r.has (u - x + r.x0) (v - y + r.y0) then s.at_ (u - x + r.x0) (v - y + r.y0) else d.at_ u v
def copyB (d s : Bm) (r : Rc) (x y : Int) : Bm × Int :=
  if ¬ (d.ok ∧ s.ok) then (zeroB, 15) else if ¬ (r.ok ∧ inRc x ∧ inRc y) then (zeroB, 6) else (⟨d.b, grid d.b (copyF d s r x y)⟩, 0)
theorem has_iff {p : Rc} (hp : p.canon = p) (u v : Int) : p.has u v ↔ (p.x0 ≤ u ∧ u < p.x1 ∧ p.y0 ≤ v ∧ v < p.y1) := by
  rw [Rc.has_canon, hp]
theorem cp_zero {d s : Bm} {p r : Rc} (hp : p.canon = p) {x y u v : Int} : cpF d s p r x y 0 0 u v = d.at_ u v := by
  unfold cpF
  rw [if_neg]
  rw [has_iff hp]
  omega
theorem cp_row {d s : Bm} {p r : Rc} (hp : p.canon = p) {x y i j u v : Int} (hj : j = p.x1 - p.x0) : cpF d s p r x y i j u v = cpF d s p r x y (i + 1) 0 u v := by
  unfold cpF
  refine ite_iff ?_
  rw [has_iff hp]
  omega
theorem cp_end {d s : Bm} {p r : Rc} (hp : p.canon = p) {x y i u v : Int} (hi : i = p.y1 - p.y0) (he : p = s.b.meet r) : cpF d s p r x y i 0 u v = copyF d s r x y u v := by
  unfold cpF copyF
  refine ite_iff ?_
  rw [← meet_has, ← he, has_iff hp]
  omega
theorem cp_step {d s : Bm} {p r : Rc} (hp : p.canon = p) {x y i j u v : Int} (h : p.has (p.x0 + j) (p.y0 + i)) :
    (if u = x + (p.x0 + j) - r.x0 ∧ v = y + (p.y0 + i) - r.y0 then s.at_ (p.x0 + j) (p.y0 + i) else cpF d s p r x y i j u v) = cpF d s p r x y i (j + 1) u v := by
  by_cases e : u = x + (p.x0 + j) - r.x0 ∧ v = y + (p.y0 + i) - r.y0
  · rw [if_pos e]
    have e1 : u - x + r.x0 = p.x0 + j := by omega
    have e2 : v - y + r.y0 = p.y0 + i := by omega
    unfold cpF
    rw [e1, e2, if_pos ⟨h, by omega⟩]
  · rw [if_neg e]
    unfold cpF
    refine ite_iff ?_
    rw [has_iff hp]
    omega
theorem cp_skip {d s : Bm} {p r : Rc} (hp : p.canon = p) {x y i j u v : Int} (h : ¬ (u = x + (p.x0 + j) - r.x0 ∧ v = y + (p.y0 + i) - r.y0)) :
    cpF d s p r x y i j u v = cpF d s p r x y i (j + 1) u v := by
  unfold cpF
  refine ite_iff ?_
  rw [has_iff hp]
  omega

set_option maxRecDepth 100000 in
set_option maxHeartbeats 4000000 in
theorem p_copy (d s : Bm) (r : Rc) (x y : Int) (hl1 : d.px.length ≤ 1000) :
    CallsG Tryz.prog 30 [.agg (bmE d), .agg (bmE s), .agg (rcE r), i64 x, i64 y] [] (bmR (copyB d s r x y)) [(0, .arr 57 pixE 4 (copyB d s r x y).1.px)] := by
  generalize hq : copyB d s r x y = q
  refine calls_own tok mix Tryz.func30 rfl rfl rfl ?_
  refine CallV.to _ (p_bvalid d) rfl ?_
  refine Br.mk (fun h1 => ⟨none, bad_bm (q := q) (e := 15) (by rw [← hq, copyB, if_pos (fun k => h1 k.1)])⟩) (fun h1 => ?_)
  refine CallV.to _ (p_bvalid s) rfl ?_
  refine Br.mk (fun h2 => ⟨none, bad_bm (q := q) (e := 15) (by rw [← hq, copyB, if_pos (fun k => h2 k.2)])⟩) (fun h2 => ?_)
  have hd := Decidable.not_not.1 h1
  have hs := Decidable.not_not.1 h2
  refine CallV.to _ (p_valid r) rfl ?_
  refine Br.mk (fun h3 => ⟨none, bad_bm (q := q) (e := 6) (by rw [← hq, copyB, if_neg (fun k => k ⟨hd, hs⟩), if_pos (fun k => h3 k.1)])⟩) (fun h3 => ?_)
  refine CallV.to _ (p_reach x) rfl ?_
  refine Br.mk (fun h4 => ⟨none, bad_bm (q := q) (e := 6) (by rw [← hq, copyB, if_neg (fun k => k ⟨hd, hs⟩), if_pos (fun k => h4 k.2.1)])⟩) (fun h4 => ?_)
  refine CallV.to _ (p_reach y) rfl ?_
  refine Br.mk (fun h5 => ⟨none, bad_bm (q := q) (e := 6) (by rw [← hq, copyB, if_neg (fun k => k ⟨hd, hs⟩), if_pos (fun k => h5 k.2.2)])⟩) (fun h5 => ?_)
  have h345 : r.ok ∧ inRc x ∧ inRc y := ⟨Decidable.not_not.1 h3, Decidable.not_not.1 h4, Decidable.not_not.1 h5⟩
  have e : q = (⟨d.b, grid d.b (copyF d s r x y)⟩, 0) := by rw [← hq, copyB, if_neg (fun k => k ⟨hd, hs⟩), if_neg (fun k => k h345)]
  clear hq
  subst e
  have hc := hd.1
  have hA := hd.2.1
  have hl := hd.2.2.1
  have hsl := hs.2.2.1
  have hsA := hs.2.1
  have hmeet := p_meet s.b r
  have hp := meet_self s.b r
  have hph := meet_has s.b r
  have hpe : s.b.meet r = s.b.meet r := rfl
  generalize hgp : s.b.meet r = p at hmeet hp hph
  have hsd := Rc.sides hp
  unfold inRc at hsd
  unfold Rc.ok inRc at h345
  have ew : p.w = p.x1 - p.x0 := rfl
  have eh : p.h = p.y1 - p.y0 := rfl
  refine Dr.dyn (Ob.mk (by decide +kernel) ?_)
  refine CallV.fresh _ _ (c_pxclone d.px hl1) rfl (fun _ _ => rfl) (.inr (fun _ _ => rfl)) ?_
  refine Ob.mk (by kernel_rfl) ?_
  refine CallV.to _ hmeet rfl ?_
  refine CallV.to _ (p_fhigh p hp) rfl ?_
  refine ⟨Nat, fun i => ⟨[(59, i64 (i : Int)), (58, i64 (p.y1 - p.y0)), (3, i64 x), (4, i64 y), (5, .loc 0 0), (6, .loc 1 0), (7, .loc 2 0), (10, .loc 3 0), (12, .loc 5 0), (13, .loc 6 0)], [(6, .box 23 (rcE p)), (5, .box 26 [i64 d.b.x0, i64 d.b.y0, i64 d.b.x1, i64 d.b.y1, .own 4]), (4, .arr 57 pixE 4 (grid d.b (cpF d s p r x y (i : Int) 0))), (3, .box 26 nilB), (2, .box 23 (rcE r)), (1, .box 26 (bmE s)), (0, .box 26 (bmE d))], 7, 114, 0⟩,
    fun i => (i : Int) ≤ p.h, fun i => (p.h - i).toNat, 0, ?_, ?_, ?_⟩
  · show (0 : Int) ≤ p.h; omega
  · exact sub_of [(0, some 0), (1, some 1), (2, some 2), (3, some 3), (4, some 4), (5, some 5), (6, some 6)] rfl rfl rfl ⟨rfl, rfl, rfl, rfl, rfl, rfl, rfl, rfl, rfl, rfl, trivial⟩ ⟨rfl, rfl, congrArg (fun l => some (Mem.arr 57 pixE 4 l)) ((Bm.grid hd).trans (grid_congr hc fun u v _ => (cp_zero hp).symm)), rfl, rfl, rfl, rfl, trivial⟩
  rintro i hi
  have hi : (i : Int) ≤ p.h := hi
  refine Br.mk (fun g9 => ?_) (fun g9 => ?_)
  · have g9 : (i : Int) < p.h := by omega
    refine CallV.to _ (p_fwide p hp) rfl ?_
    refine ⟨Nat, fun j => ⟨[(64, i64 (j : Int)), (63, i64 (p.x1 - p.x0)), (14, i64 (i : Int)), (59, i64 (i : Int)), (58, i64 (p.y1 - p.y0)), (3, i64 x), (4, i64 y), (5, .loc 0 0), (6, .loc 1 0), (7, .loc 2 0), (10, .loc 3 0), (12, .loc 5 0), (13, .loc 6 0)], [(6, .box 23 (rcE p)), (5, .box 26 [i64 d.b.x0, i64 d.b.y0, i64 d.b.x1, i64 d.b.y1, .own 4]), (4, .arr 57 pixE 4 (grid d.b (cpF d s p r x y (i : Int) (j : Int)))), (3, .box 26 nilB), (2, .box 23 (rcE r)), (1, .box 26 (bmE s)), (0, .box 26 (bmE d))], 7, 114, 0⟩,
      fun j => (j : Int) ≤ p.w, fun j => (p.w - j).toNat, 0, ?_, ?_, ?_⟩
    · show (0 : Int) ≤ p.w; omega
    · exact sub_of [(0, some 0), (1, some 1), (2, some 2), (3, some 3), (4, some 4), (5, some 5), (6, some 6)] rfl rfl rfl ⟨rfl, rfl, rfl, rfl, rfl, rfl, rfl, rfl, rfl, rfl, rfl, rfl, rfl, trivial⟩ ⟨rfl, rfl, rfl, rfl, rfl, rfl, rfl, trivial⟩
    rintro j hj
    have hj : (j : Int) ≤ p.w := hj
    refine Br.mk (fun k1 => ?_) (fun k1 => ?_)
    · have k1 : (j : Int) < p.w := by omega
      have hpl : p.has (p.x0 + j) (p.y0 + i) := (has_iff hp _ _).2 (by omega)
      have hsh : s.b.has (p.x0 + j) (p.y0 + i) := ((hph _ _).1 hpl).1
      have hsi := Rc.idx_has hsh
      have hg : (grid d.b (cpF d s p r x y (i : Int) (j : Int))).length = d.b.area.toNat := grid_len _ _
      have hAr := d.b.area_range
      refine Dr.dyn (Ob.mk (by decide +kernel) ?_)
      refine Ar.fit (by omega) ?_
      refine Ar.fit (by omega) ?_
      refine Ob.mk (by kernel_rfl) ?_
      refine Ar.fit (by omega) ?_
      refine Ar.fit (by omega) ?_
      refine Ar.fit (by omega) ?_
      refine Ar.fit (by omega) ?_
      refine CallV.to _ (p_findex d.b hc (x + (p.x0 + j) - r.x0) (y + (p.y0 + i) - r.y0)) rfl ?_
      have ps := p_findex s.b hs.1 (p.x0 + j) (p.y0 + i)
      rw [if_pos hsh] at ps
      refine CallV.to _ ps rfl ?_
      refine Br.mk (fun hy => ?_) (fun hy => ?_)
      · have hdi := Rc.idx_has hy
        have ei : (if d.b.has (x + (p.x0 + j) - r.x0) (y + (p.y0 + i) - r.y0) then d.b.idx (x + (p.x0 + j) - r.x0) (y + (p.y0 + i) - r.y0) else 0) = d.b.idx (x + (p.x0 + j) - r.x0) (y + (p.y0 + i) - r.y0) := if_pos hy
        refine Dr.dyn (Ob.mk (by decide +kernel) ?_)
        refine Ob.mk (by omega) ?_
        intro q hq
        obtain rfl := place_px hs hsh rfl hq
        refine Ob.mk (by rw [ei]; omega) ?_
        refine Ob.mk (by rw [ei]; omega) ?_
        intro z hz
        refine ⟨s.at_ (p.x0 + j) (p.y0 + i), rfl, ?_⟩
        refine Ob.mk (by kernel_rfl) ?_
        refine Ar.fit (by omega) ?_
        refine ⟨j + 1, (by show ((j + 1 : Nat) : Int) ≤ p.w; omega), sub_of [(0, some 0), (1, some 1), (2, some 2), (3, some 3), (4, some 4), (5, some 5), (6, some 6)] rfl rfl rfl
          ⟨congrArg (fun n => some (i64 n)) (show (j : Int) + 1 = ((j + 1 : Nat) : Int) by omega), rfl, rfl, rfl, rfl, rfl, rfl, rfl, rfl, rfl, rfl, rfl, rfl, trivial⟩
          ⟨rfl, rfl, congrArg (fun l => some (Mem.arr 57 pixE 4 l)) (by rw [ei, grid_set hc hy]; exact grid_congr hc fun u v _ => cp_step hp hpl), rfl, rfl, rfl, rfl, trivial⟩, (by dsimp only; omega)⟩
      · refine Ar.fit (by omega) ?_
        refine ⟨j + 1, (by show ((j + 1 : Nat) : Int) ≤ p.w; omega), sub_of [(0, some 0), (1, some 1), (2, some 2), (3, some 3), (4, some 4), (5, some 5), (6, some 6)] rfl rfl rfl
          ⟨congrArg (fun n => some (i64 n)) (show (j : Int) + 1 = ((j + 1 : Nat) : Int) by omega), rfl, rfl, rfl, rfl, rfl, rfl, rfl, rfl, rfl, rfl, rfl, rfl, trivial⟩
          ⟨rfl, rfl, congrArg (fun l => some (Mem.arr 57 pixE 4 l)) (grid_congr hc fun u v huv => cp_skip hp fun k => hy (k.1 ▸ k.2 ▸ huv)), rfl, rfl, rfl, rfl, trivial⟩, (by dsimp only; omega)⟩
    · have hjw : (j : Int) = p.x1 - p.x0 := by omega
      refine Ar.fit (by omega) ?_
      refine ⟨i + 1, (by show ((i + 1 : Nat) : Int) ≤ p.h; omega), sub_of [(0, some 0), (1, some 1), (2, some 2), (3, some 3), (4, some 4), (5, some 5), (6, some 6)] rfl rfl rfl
        ⟨congrArg (fun n => some (i64 n)) (show (i : Int) + 1 = ((i + 1 : Nat) : Int) by omega), rfl, rfl, rfl, rfl, rfl, rfl, rfl, rfl, rfl, trivial⟩
        ⟨rfl, rfl, congrArg (fun l => some (Mem.arr 57 pixE 4 l)) (grid_congr hc fun u v _ => cp_row hp hjw), rfl, rfl, rfl, rfl, trivial⟩, (by dsimp only; omega)⟩
  · have hih : (i : Int) = p.y1 - p.y0 := by omega
    exact ⟨some 4, take_tup (.cons (take_agg (.cons (take_int rfl) (.cons (take_int rfl) (.cons (take_int rfl) (.cons (take_int rfl) (.cons (.own _ rfl) .nil)))))) (.cons (take_int rfl) .nil)), congrArg (fun l => some (Mem.arr 57 pixE 4 l)) (grid_congr hc fun u v _ => cp_end hp hih hgp.symm), fun _ _ => rfl⟩

end Go.Gs
/- From a contract of a law to the walk that its row asks for. -/
namespace Go.Gs

/-- A law that, by its contract, answers true. -/
theorem law_walk {P : Program} {f : FuncId} {args : List SV} {vs : List Value} {w : World} (h : CallsG P f args [] (bl true) [])
    (hg : ∀ S Pm : Nat → Prop, (∀ b, ¬ S b) → (∀ b, ¬ Pm b) → Gs S Pm (fun _ => none) w args vs) :
    Calls P f vs.toArray w fun e w' => e = .returned (.bool true) ∧ RowKit.Grown w w' := by
  refine (h.2 (fun _ => False) (fun _ => none) w vs (fun _ h => h.elim) (memOK_nil (fun _ h => h.elim)) (fun _ _ => rfl) (hg _ _ (fun b hb => hb.elim id own_nil) (fun b => own_nil))).mono ?_
  rintro e w' ⟨v, ρ', rfl, hs, _, hv⟩
  refine ⟨by rw [hv.val_inv], ⟨hs.os, hs.output.1, fun i hi => ?_⟩, hs.output.2, hs.size⟩
  rw [hs.block i hi own_nil]
  cases w.heap[i]? with
  | none => rfl
  | some o => cases o <;> simp

/-- And nothing that was there has turned. -/
theorem law_walk' {P : Program} {f : FuncId} {args : List SV} {vs : List Value} {w : World} (h : CallsG P f args [] (bl true) [])
    (hg : ∀ S Pm : Nat → Prop, (∀ b, ¬ S b) → (∀ b, ¬ Pm b) → Gs S Pm (fun _ => none) w args vs) :
    Calls P f vs.toArray w fun e w' => e = .returned (.bool true) ∧ RowKit.Grown w w' ∧ RowKit.Below w.heap.size w w' := by
  refine (h.2 (fun _ => False) (fun _ => none) w vs (fun _ h => h.elim) (memOK_nil (fun _ h => h.elim)) (fun _ _ => rfl) (hg _ _ (fun b hb => hb.elim id own_nil) (fun b => own_nil))).mono ?_
  rintro e w' ⟨v, ρ', rfl, hs, _, hv⟩
  refine ⟨by rw [hv.val_inv], ⟨⟨hs.os, hs.output.1, fun i hi => ?_⟩, hs.output.2, hs.size⟩, ⟨hs.os, hs.tape, hs.output.1, hs.size, fun i hi => hs.block i hi own_nil⟩⟩
  rw [hs.block i hi own_nil]
  cases w.heap[i]? with
  | none => rfl
  | some o => cases o <;> simp

/-- The arguments, one by one. -/
theorem Gs.val {S Pm : Nat → Prop} {ρ : Names} {w : World} {v : Value} {cs : List SV} {vs : List Value} (h : Gs S Pm ρ w cs vs) : Gs S Pm ρ w (.val v :: cs) (v :: vs) := .cons (.d _ _ (.val v)) h

theorem r64 {n : Int} (h : (Lit.int .i64 n).wf = true) : R64 n := by
  simp only [Lit.wf, Bool.and_eq_true, decide_eq_true_eq] at h
  exact h
theorem r8 {n : Int} (h : (Lit.int .u8 n).wf = true) : R8 n := by
  simp only [Lit.wf, Bool.and_eq_true, decide_eq_true_eq] at h
  exact h

end Go.Gs
/- Arguments laid open: slices of structs of integers. -/
namespace Go.Gs
open Go.ChangeShapes Go.WideShapes Go.Deep Go.Joins Go.RowKit

section
variable {H : Type} {enc : TypeId × Value → H} {P : Program} {w : World} {base : Nat} {held : Bool}

/-- What is read of a slice of structs of integers. -/
theorem open_sl_ints {t e : TypeId} {fs : Array Field} {fuel : Nat} {v : Value} {x : DataW H × List MemPlace} (ks : List IntKind) (ht : P.underlying t = some (.slice e)) (he : P.underlying e = some (.struct fs))
    (hone : oneCellFields P fs = true) (hC : P.cellsOf e = ks.length) (hk : ∀ (j : Nat) (k : IntKind), ks[j]? = some k → ∃ f, fs[j]? = some f ∧ P.underlying f.type = some (.int k))
    (h : DataW.trod enc P w base (fun _ => true) held fuel t [v] = some x) :
    v = .slice none 0 0 ∨ ∃ (a : Addr) (len cap : Nat) (R : Nat → Nat → Int), v = .slice (some a) len cap ∧ len ≤ cap ∧ cap ≤ maxLen ∧
      ∀ (i j : Nat) (k : IntKind), i < len → ks[j]? = some k → w.cell? (a.add (i * ks.length + j)) = some (.int k (R i j)) ∧ (Lit.int k (R i j)).wf = true := by
  rcases open_slice ht h with ⟨h0, _⟩ | ⟨a, len, cap, m, n, D, Pl, hcs, _, hl, hm, hmm, _, hi⟩
  · simp only [List.cons.injEq, and_true] at h0
    exact .inl h0
  · simp only [List.cons.injEq, and_true] at hcs
    refine .inr ⟨a, len, cap, fun i j => match w.cell? (a.add (i * ks.length + j)) with
      | some (.int _ n) => n
      | _ => 0, hcs, hl, hm, fun i j k hil hjk => ?_⟩
    obtain ⟨f, hf, hu⟩ := hk j k hjk
    obtain ⟨cs', hc, ht'⟩ := hi i (by simp at hmm; omega)
    rw [hC] at hc
    obtain ⟨ys, n', hn', hy, hlen, hyl, hfl⟩ := DataW.trod_struct he ht'
    obtain ⟨_, hcl, hat⟩ := World.cells?_some hc
    obtain ⟨ho, hk1⟩ := hone_of hone j f hf
    have hjl : j < ks.length := (List.getElem?_eq_some_iff.1 hjk).1
    have hcell := hat j hjl
    have h1 := hfl j f hf
    rw [ho, hk1] at h1
    have hone' : (cs'.drop j).take 1 = [cs'[j]'(by omega)] := by
      rw [List.drop_eq_getElem_cons (by omega)]; rfl
    rw [hone'] at h1
    have hys : ys[j]? = some (ys[j]'(by have := (Array.getElem?_eq_some_iff.1 hf).1; omega)) := List.getElem?_eq_getElem _
    obtain ⟨q, hq, _, hw⟩ := DataW.trod_int hu (h1.trans hys)
    simp only [List.cons.injEq, and_true] at hq
    have hcc : w.cell? (a.add (i * ks.length + j)) = some (.int k q) := by
      rw [← Go.Deep.add_add, hcell, List.getElem?_eq_getElem (show j < cs'.length by omega), hq]
    simp only [hcc]
    exact ⟨trivial, hw⟩
/-- What is read of a slice of which each element is a row of integers. -/
theorem open_sl_cells {t e : TypeId} {fuel : Nat} {v : Value} {x : DataW H × List MemPlace} (ks : List IntKind) (ht : P.underlying t = some (.slice e)) (hC : P.cellsOf e = ks.length)
    (hcell : ∀ (n : Nat) (cs : List Value) (y : DataW H × List MemPlace), DataW.trod enc P w base (fun _ => true) held n e cs = some y → ∀ (j : Nat) (k : IntKind), ks[j]? = some k → ∃ q : Int, cs[j]? = some (.int k q) ∧ (Lit.int k q).wf = true)
    (h : DataW.trod enc P w base (fun _ => true) held fuel t [v] = some x) :
    v = .slice none 0 0 ∨ ∃ (a : Addr) (len cap : Nat) (R : Nat → Nat → Int), v = .slice (some a) len cap ∧ len ≤ cap ∧ cap ≤ maxLen ∧
      ∀ (i j : Nat) (k : IntKind), i < len → ks[j]? = some k → w.cell? (a.add (i * ks.length + j)) = some (.int k (R i j)) ∧ (Lit.int k (R i j)).wf = true := by
  rcases open_slice ht h with ⟨h0, _⟩ | ⟨a, len, cap, m, n, D, Pl, hcs, _, hl, hm, hmm, _, hi⟩
  · simp only [List.cons.injEq, and_true] at h0
    exact .inl h0
  · simp only [List.cons.injEq, and_true] at hcs
    refine .inr ⟨a, len, cap, fun i j => match w.cell? (a.add (i * ks.length + j)) with
      | some (.int _ n) => n
      | _ => 0, hcs, hl, hm, fun i j k hil hjk => ?_⟩
    obtain ⟨cs', hc, ht'⟩ := hi i (by simp at hmm; omega)
    rw [hC] at hc
    obtain ⟨q, hq, hw⟩ := hcell _ _ _ ht' j k hjk
    obtain ⟨_, hcl, hat⟩ := World.cells?_some hc
    have hjl : j < ks.length := (List.getElem?_eq_some_iff.1 hjk).1
    have hcell := hat j hjl
    have hcc : w.cell? (a.add (i * ks.length + j)) = some (.int k q) := by
      rw [← Go.Deep.add_add, hcell, hq]
    simp only [hcc]
    exact ⟨trivial, hw⟩
end

theorem wf_one {k : IntKind} {n : Int} : (Value.int k n).oneCell' = true := rfl

/-- A slice of structs of integers, as a list. -/
theorem d_sl_ints {S : Nat → Prop} {w : World} {α : Type} (enc : α → List SV) (f : Nat → α) (ks : List IntKind) (R : Nat → Nat → Int) {b o len cap : Nat} (hb : b < w.heap.size) (hS : ¬ S b)
    (hlen : len ≤ 9223372036854775807) (hcap : len ≤ cap) (hc : ∀ (i j : Nat) (k : IntKind), i < len → ks[j]? = some k → w.cell? ⟨b, o + (i * ks.length + j), none⟩ = some (.int k (R i j)))
    (hl : ∀ i, (enc (f i)).length = ks.length) (he : ∀ (i j : Nat) (k : IntKind), i < len → ks[j]? = some k → (enc (f i))[j]? = some (.val (.int k (R i j)))) :
    D S w (.sl enc ((List.range len).map f)) (.slice (some ⟨b, o, none⟩) len cap) := by
  have h := D.sl (S := S) (w := w) enc ((List.range len).map f) ks.length b o cap (fun i j => match ks[j]? with
    | some k => .int k (R i j)
    | none => undef) hb hS (by simpa using hlen) (by simpa using hcap) (fun x hx => by
      obtain ⟨i, _, rfl⟩ := List.mem_map.1 hx; exact hl i) (fun i j hi hj => by
      have hi : i < len := by simpa using hi
      have hk := List.getElem?_eq_getElem hj
      simp only [hk]
      refine ⟨?_, rfl⟩
      have := hc i j _ hi hk
      rw [← Nat.add_assoc] at this
      exact this) (fun i j x s hx hs => by
      have hi : i < len := by have := (List.getElem?_eq_some_iff.1 hx).1; simpa using this
      simp only [List.getElem?_map, List.getElem?_range hi, Option.map_some, Option.some.injEq] at hx
      subst hx
      have hj : j < ks.length := by have := (List.getElem?_eq_some_iff.1 hs).1; rw [hl] at this; exact this
      have hk := List.getElem?_eq_getElem hj
      have := he i j _ hi hk
      rw [hs] at this; cases this
      simp only [hk]
      exact .val _)
  simpa using h

/-- What has not turned below the heap's old size reads as it did. -/
theorem args_stay {H : Type} {enc : TypeId × Value → H} {P : Program} (hl : laidOutB P = true) {W W' : World} (hb : Below W.heap.size W W') {sp : Nat → Bool} :
    ∀ {ts : List TypeId} {vs : List Value} {ds : List (DataW H)} {ps : List MemPlace}, (ts.all fun t => P.readableRec t && decide (t < P.types.size)) = true →
      DataW.TrodAll enc P W 0 (fun _ => true) true ts vs ds ps → (∀ p ∈ ps, p.block < W.heap.size) → (∀ p ∈ ps, sp p.block = true) → DataW.TrodAll enc P W' 0 sp true ts vs ds ps
  | [], [], [], _, _, h, _, _ => h
  | t :: ts, v :: vs, d :: ds, ps, hts, ⟨p, q, h1, h2, e⟩, hlt, hsp => by
    simp only [List.all_cons, Bool.and_eq_true, decide_eq_true_eq] at hts
    have e1 : ∀ x ∈ p, x ∈ ps := fun x hx => by rw [e]; exact List.mem_append_left _ hx
    have e2 : ∀ x ∈ q, x ∈ ps := fun x hx => by rw [e]; exact List.mem_append_right _ hx
    refine ⟨p, q, WideElems.Trod_stays hl hts.1.1 hts.1.2 h1 (fun x hx => hb.same (hlt x (e1 x hx))) (fun x hx => hsp x (e1 x hx)), args_stay hl hb (by simpa using hts.2) h2 (fun x hx => hlt x (e2 x hx)) (fun x hx => hsp x (e2 x hx)), e⟩

/-- Integers side by side. -/
theorem g_ints {S Pm : Nat → Prop} {ρ : Names} {w : World} {cs : List SV} (l : List Value) (h : cs = l.map .val) : G S Pm ρ w (.agg cs) (.agg l.toArray) := by
  subst h
  refine .agg _ l (by simp) fun j s v hs hv => ?_
  simp only [List.getElem?_map, hv, Option.map_some, Option.some.injEq] at hs
  subst hs
  exact .d _ _ (.val v)

/-- An array of integers. -/
theorem open_arr_ints {H : Type} {enc : TypeId × Value → H} {P : Program} {w : World} {base b0 : Nat} {held : Bool} {sp : Nat → Bool} {r : Reach} {t e : TypeId} {n : Nat} {k : IntKind} {v : Value} {d : DataW H} {p : List MemPlace}
    (ht : P.underlying t = some (.array n e)) (he : P.underlying e = some (.int k)) (hce : P.cellsOf e = 1) (hC : P.cellsOf t = n) (hv : Value.okWide P w r b0 t v) (h : DataW.Trod enc P w base sp held t v d p) :
    ∃ R : Nat → Int, v = .agg ((List.range n).map fun j => Value.int k (R j)).toArray ∧ ∀ j, j < n → (Lit.int k (R j)).wf = true := by
  unfold Value.okWide at hv
  rw [ht] at hv
  obtain ⟨cs, rfl, hsz, _⟩ := hv
  obtain ⟨fuel, hf⟩ := h
  obtain ⟨xs, m, _, _, hlen, hxl, hi⟩ := DataW.trod_array ht hf
  have hlen : cs.toList.length = n := by simpa [Value.cells, hC] using hlen
  have key : ∀ j, j < n → ∃ q : Int, cs.toList[j]? = some (.int k q) ∧ (Lit.int k q).wf = true := fun j hj => by
    have h1 := hi j hj
    rw [hce, Nat.mul_one] at h1
    have h2 : ((Value.agg cs).cells.toList.drop j).take 1 = [cs.toList[j]'(by omega)] := by
      show (cs.toList.drop j).take 1 = _
      rw [List.drop_eq_getElem_cons (by omega)]; rfl
    rw [h2] at h1
    obtain ⟨q, hq, _, hw⟩ := DataW.trod_int he (h1.trans (List.getElem?_eq_getElem (show j < xs.length by omega)))
    simp only [List.cons.injEq, and_true] at hq
    exact ⟨q, by rw [List.getElem?_eq_getElem (by omega), hq], hw⟩
  obtain ⟨R, hR⟩ := choose_lt key
  refine ⟨R, ?_, fun j hj => (hR j hj).2⟩
  congr 1
  apply Array.toList_inj.1
  refine List.ext_getElem? fun j => ?_
  by_cases hj : j < n
  · rw [(hR j hj).1]; simp [hj]
  · rw [List.getElem?_eq_none (by omega), List.getElem?_eq_none (by simp; omega)]

end Go.Gs
