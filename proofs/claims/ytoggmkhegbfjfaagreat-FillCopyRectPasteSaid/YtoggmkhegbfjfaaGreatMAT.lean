/- Rows of a brush. -/
import Derived.Test.YtoggmkhegbfjfaaGreatMAR
import Derived.Test.YtoggmkhegbfjfaaGreatMAS
import Derived.Test.YtoggmkhegbfjfaaGreatMAN
import Derived.Test.YtoggmkhegbfjfaaGreatRows
import Derived.WalkKit
import Derived.ProofKit
import Derived.OpenShut
import Derived.JoinedOf
namespace Go.Gs
open Go.Proofs

def rowAt (f : Int → Int → Pix) (x y : Int) (i : Nat) : Pix := if 4096 < x then zeroP else f (x + i) y
def rowP (f : Int → Int → Pix) (x y : Int) (m : Nat) : List Pix := (List.range m).map (rowAt f x y)
theorem rowP_succ (f : Int → Int → Pix) (x y : Int) (m : Nat) : rowP f x y (m + 1) = rowP f x y m ++ [rowAt f x y m] := by
  simp [rowP, List.range_succ]
theorem rowP_len (f : Int → Int → Pix) (x y : Int) (m : Nat) : (rowP f x y m).length = m := by simp [rowP]
theorem pxOne (d : Pix) : [d].length = 1 ∧ 1 ≤ 281474976710656 ∧ 1 * 4 ≤ 16777216 ∧ 0 < 4 ∧ ∀ x ∈ [d], (pixE x).length = 4 ∧ cellsB (pixE x) = true ∧ flat.flats (pixE x) = true :=
  ⟨rfl, by decide, by decide, by decide, fun _ _ => ⟨rfl, rfl, rfl⟩⟩
theorem pxFst (d : Pix) : (([d].length : Int) * (4 : Nat) ≤ 140737488355328 ∧ [d].length ≤ 281474976710656 ∧ 0 < 4 ∧ ∀ x ∈ [d], (pixE x).length = 4) :=
  ⟨by show (1 : Int) * 4 ≤ _; decide, by show 1 ≤ _; decide, by decide, fun _ _ => rfl⟩
theorem pxApp {xs : List Pix} (d : Pix) (h : xs.length ≤ 100000) : ((xs.length + [d].length : Int) * (4 : Nat) ≤ 140737488355328 ∧ xs.length + [d].length ≤ 281474976710656 ∧ 0 < 4 ∧ ∀ x ∈ [d], (pixE x).length = 4) :=
  ⟨by simp only [List.length_singleton]; omega, by simp only [List.length_singleton]; omega, by decide, fun _ _ => rfl⟩

end Go.Gs
/- The laws Independent and NilBrush of paints. -/
namespace Go.Gs
open Go.Proofs

abbrev i8 (n : Int) : SV := .val (.int .i8 n)
def q8E (q : Pt) : List SV := [i8 q.x, i8 q.y]

theorem zeroP_ok : pxOK zeroP := by decide
theorem atP_ok {p : Pnt} {t : AF} {x y : Int} (h8 : P8p p) : pxOK (atP p t x y) := by
  unfold atP
  split
  · exact zeroP_ok
  split
  · exact preP_ok h8.1
  unfold srcP
  split
  · exact preP_ok (spCol_8 h8.2.1)
  split
  · exact preP_ok (spCol_8 h8.2.1)
  · exact smp_ok _ _ _ _ _ h8.2.2

def firstP (f : Int → Int → Pix) (l : List Pt) (i : Nat) : List Pix := (l.take i).map fun q => f q.x q.y
theorem firstP_len {f : Int → Int → Pix} {l : List Pt} {i : Nat} (h : i ≤ l.length) : (firstP f l i).length = i := by simp [firstP]; omega
theorem firstP_succ {f : Int → Int → Pix} {l : List Pt} {i : Nat} {q : Pt} (h : l[i]? = some q) : firstP f l (i + 1) = firstP f l i ++ [f q.x q.y] := by
  have hi := (List.getElem?_eq_some_iff.1 h).1
  have e := (List.getElem?_eq_some_iff.1 h).2
  unfold firstP
  rw [List.take_succ_eq_append_getElem hi, List.map_append, e]; rfl
theorem firstP_at {f : Int → Int → Pix} {l : List Pt} {i : Nat} {q : Pt} (h : l[i]? = some q) : (firstP f l l.length)[i]? = some (f q.x q.y) := by
  simp [firstP, h]

def zbr : List SV := .val .nilIface :: zero24
set_option maxRecDepth 100000 in
theorem c_atz (x y : Int) : CallsG Tryz.prog 45 [.ptr zbr, i64 x, i64 y] [] (.agg (pixE zeroP)) [] := by
  refine calls_to tok mix Tryz.func45 rfl rfl rfl ?_
  exact .refl
theorem row0_at {x y : Int} {m i : Nat} {q : Pix} (h : (rowP (fun _ _ => zeroP) x y m)[i]? = some q) : q = zeroP := by
  unfold rowP at h
  rw [List.getElem?_map] at h
  cases hr : (List.range m)[i]? with
  | none => simp [hr] at h
  | some k =>
    simp [hr] at h
    rw [← h]; unfold rowAt; split <;> rfl

end Go.Gs
/- Paints among the arguments, laid open. -/
namespace Go.Gs
open Go.Proofs Go.RowKit

def shPix : Sh := .st (.cons shB (.cons shB (.cons shB (.cons shB .nil))))
def toPix (y : shPix.T) : Pix := ⟨y.1, y.2.1, y.2.2.1, y.2.2.2.1⟩
theorem pix_le (y : shPix.T) : LEds (shPix.enc y) (pixE (toPix y)) := LEds.refl
theorem pix_wf {y : shPix.T} (h : shPix.wf y) : P8 (toPix y) := ⟨wf8 h.1, wf8 h.2.1, wf8 h.2.2.1, wf8 h.2.2.2.1⟩
def shPt : Sh := .st (.cons shI (.cons shI .nil))
def toPt (y : shPt.T) : Pt := ⟨y.1, y.2.1⟩
def shStop : Sh := .st (.cons shI (.cons shPix .nil))
def toStop (y : shStop.T) : Stop := ⟨y.1, toPix y.2.1⟩
theorem stop_le (y : shStop.T) : LEds (shStop.enc y) (stopE (toStop y)) := LEds.refl
def shImg : Sh := .st (.cons shI (.cons shI (.cons (.sl shPix) .nil)))
def toImg (y : shImg.T) : Img := ⟨y.1, y.2.1, List.map toPix y.2.2.1⟩
theorem img_le (y : shImg.T) : LEds (shImg.enc y) (imgE (toImg y)) := .cons .refl (.cons .refl (.cons (LEd.sl toPix fun x _ => pix_le x) .nil))
theorem img_wf {y : shImg.T} (h : shImg.wf y) : ∀ q ∈ (toImg y).px, P8 q := fun q hq => by
  obtain ⟨x, hx, rfl⟩ := List.mem_map.1 hq
  exact pix_wf (h.2.2.1 x hx)
def shPnt : Sh := .st (.cons shI (.cons shPix (.cons shPt (.cons shPt (.cons shI (.cons (.sl shStop) (.cons shI (.cons shImg (.cons shI (.cons shAf .nil))))))))))
def toPnt (y : shPnt.T) : Pnt := ⟨y.1, toPix y.2.1, toPt y.2.2.1, toPt y.2.2.2.1, y.2.2.2.2.1, List.map toStop y.2.2.2.2.2.1, y.2.2.2.2.2.2.1, toImg y.2.2.2.2.2.2.2.1, y.2.2.2.2.2.2.2.2.1, toAF y.2.2.2.2.2.2.2.2.2.1⟩
theorem pnt_le (y : shPnt.T) (h : shPnt.wf y) : LEds (shPnt.enc y) (pntE (toPnt y)) :=
  .cons .refl (.cons .refl (.cons .refl (.cons .refl (.cons .refl (.cons .refl (.cons .refl (.cons .refl (.cons .refl (.cons .refl (.cons (LEd.sl toStop fun x _ => stop_le x) (.cons .refl
    (.cons .refl (.cons .refl (.cons (LEd.sl toPix fun x _ => pix_le x) (.cons .refl (by
    have := LEds.append (af_le _ h.2.2.2.2.2.2.2.2.2.1) .nil
    rwa [List.append_nil, List.append_nil] at this))))))))))))))))
theorem pnt_wf {y : shPnt.T} (h : shPnt.wf y) : P8p (toPnt y) := ⟨pix_wf h.2.1, fun s hs => by
    obtain ⟨x, hx, rfl⟩ := List.mem_map.1 hs
    exact pix_wf (h.2.2.2.2.2.1 x hx).2.1, img_wf h.2.2.2.2.2.2.2.1⟩

section
variable {H : Type} {enc : TypeId × Value → H} {W : World} {b0 : Nat} {held : Bool}
set_option maxRecDepth 100000 in
theorem open_paint {v : Value} {d : DataW H} {p : List MemPlace} (hv : Value.okWide Tryz.prog W .any b0 45 v) (h : DataW.Trod enc Tryz.prog W 0 (fun _ => true) held 45 v d p) :
    ∃ q : Pnt, (P8p q ∧ q.im.px.length ≤ 9223372036854775807) ∧ ∀ (S Pm : Nat → Prop) (ρ : Names), (∀ b, ¬ S b) → G S Pm ρ W (.agg (pntE q)) v := by
  obtain ⟨y, hy, g⟩ := open_argL shPnt (by kernel_rfl) (by kernel_rfl) hv h
  have g := g _ (pnt_le y hy)
  refine ⟨toPnt y, ⟨pnt_wf hy, ?_⟩, g⟩
  obtain ⟨vs, _, hvs⟩ := (g (fun _ => False) (fun _ => False) (fun _ => none) (fun _ h => h)).agg_inv
  have hl : 14 < vs.length := by rw [hvs.1]; exact (by decide : 14 < 40)
  exact (sl_val (hvs.2 14 (.sl pixE (toPnt y).im.px) _ rfl (List.getElem?_eq_getElem hl))).1
set_option maxRecDepth 100000 in
theorem open_color {v : Value} {d : DataW H} {p : List MemPlace} (hv : Value.okWide Tryz.prog W .any b0 31 v) (h : DataW.Trod enc Tryz.prog W 0 (fun _ => true) held 31 v d p) :
    ∃ c : Pix, P8 c ∧ ∀ (S Pm : Nat → Prop) (ρ : Names), (∀ b, ¬ S b) → G S Pm ρ W (.agg (pixE c)) v := by
  obtain ⟨y, hy, g⟩ := open_argL shPix (by kernel_rfl) (by kernel_rfl) hv h
  exact ⟨toPix y, pix_wf hy, g _ (pix_le y)⟩
def shQ8 : Sh := .ar (.cons (.int .i8) (.cons (.int .i8) .nil))
def toQ8 (y : shQ8.T) : Pt := ⟨y.1, y.2.1⟩
end

end Go.Gs
/- Bitmaps, masks, jobs among the arguments, laid open. -/
namespace Go.Gs
open Go.Proofs Go.RowKit

def shRc : Sh := .st (.cons shI (.cons shI (.cons shI (.cons shI .nil))))
def toRc (y : shRc.T) : Rc := ⟨y.1, y.2.1, y.2.2.1, y.2.2.2.1⟩
def R64c (r : Rc) : Prop := R64 r.x0 ∧ R64 r.y0 ∧ R64 r.x1 ∧ R64 r.y1
theorem rc_wf {y : shRc.T} (h : shRc.wf y) : R64c (toRc y) := ⟨wfi h.1, wfi h.2.1, wfi h.2.2.1, wfi h.2.2.2.1⟩
def shBm : Sh := .st (.cons shRc (.cons (.sl shPix) .nil))
def toBm (y : shBm.T) : Bm := ⟨toRc y.1, List.map toPix y.2.1⟩
theorem bm_le (y : shBm.T) : LEds (shBm.enc y) (bmE (toBm y)) := .cons .refl (.cons .refl (.cons .refl (.cons .refl (.cons (LEd.sl toPix fun x _ => pix_le x) .nil))))
def BmW (s : Bm) : Prop := R64c s.b ∧ B8 s
theorem bm_wf {y : shBm.T} (h : shBm.wf y) : BmW (toBm y) := ⟨rc_wf h.1, fun q hq => by
  obtain ⟨x, hx, rfl⟩ := List.mem_map.1 hq
  exact pix_wf (h.2.1 x hx)⟩
def shMk : Sh := .st (.cons shRc (.cons (.sl shB) .nil))
def toU8 (y : shB.T) : Int := y
def toMk (y : shMk.T) : Mk := ⟨toRc y.1, List.map toU8 y.2.1⟩
theorem mk_le (y : shMk.T) : LEds (shMk.enc y) (mkE (toMk y)) := .cons .refl (.cons .refl (.cons .refl (.cons .refl (.cons (LEd.sl toU8 fun _ _ => LEds.refl) .nil))))
def MkW (m : Mk) : Prop := R64c m.b ∧ ∀ c ∈ m.cv, R8 c
theorem mk_wf {y : shMk.T} (h : shMk.wf y) : MkW (toMk y) := ⟨rc_wf h.1, fun q hq => by
  obtain ⟨x, hx, rfl⟩ := List.mem_map.1 hq
  exact wf8 (h.2.1 x hx)⟩

structure Job where
  d : Bm
  m : Mk
  p : Pnt
  t : AF
  mode : Int
def jobE (k : Job) : List SV := bmE k.d ++ (mkE k.m ++ (pntE k.p ++ (afE k.t ++ [i64 k.mode])))
def shJob : Sh := .st (.cons shBm (.cons shMk (.cons shPnt (.cons shAf (.cons shI .nil)))))
def toJob (y : shJob.T) : Job := ⟨toBm y.1, toMk y.2.1, toPnt y.2.2.1, toAF y.2.2.2.1, y.2.2.2.2.1⟩
def JobW (k : Job) : Prop := BmW k.d ∧ MkW k.m ∧ P8p k.p ∧ R64 k.mode
theorem job_le (y : shJob.T) (h : shJob.wf y) : LEds (shJob.enc y) (jobE (toJob y)) :=
  LEds.append (bm_le _) (LEds.append (mk_le _) (LEds.append (pnt_le _ h.2.2.1) (LEds.append (af_le _ h.2.2.2.1) LEds.refl)))
theorem job_wf {y : shJob.T} (h : shJob.wf y) : JobW (toJob y) := ⟨bm_wf h.1, mk_wf h.2.1, pnt_wf h.2.2.1, wfi h.2.2.2.2.1⟩

section
variable {H : Type} {enc : TypeId × Value → H} {W : World} {b0 : Nat} {held : Bool}
set_option maxRecDepth 100000 in
theorem open_rect3 {v : Value} {d : DataW H} {p : List MemPlace} (hv : Value.okWide Tryz.prog W .any b0 23 v) (h : DataW.Trod enc Tryz.prog W 0 (fun _ => true) held 23 v d p) :
    ∃ r : Rc, R64c r ∧ ∀ (S Pm : Nat → Prop) (ρ : Names), (∀ b, ¬ S b) → G S Pm ρ W (.agg (rcE r)) v := by
  obtain ⟨y, hy, g⟩ := open_argL shRc (by kernel_rfl) (by kernel_rfl) hv h
  exact ⟨toRc y, rc_wf hy, g _ LEds.refl⟩
set_option maxRecDepth 100000 in
theorem open_bitmap {v : Value} {d : DataW H} {p : List MemPlace} (hv : Value.okWide Tryz.prog W .any b0 26 v) (h : DataW.Trod enc Tryz.prog W 0 (fun _ => true) held 26 v d p) :
    ∃ s : Bm, BmW s ∧ ∀ (S Pm : Nat → Prop) (ρ : Names), (∀ b, ¬ S b) → G S Pm ρ W (.agg (bmE s)) v := by
  obtain ⟨y, hy, g⟩ := open_argL shBm (by kernel_rfl) (by kernel_rfl) hv h
  exact ⟨toBm y, bm_wf hy, g _ (bm_le y)⟩
set_option maxRecDepth 100000 in
theorem open_mask {v : Value} {d : DataW H} {p : List MemPlace} (hv : Value.okWide Tryz.prog W .any b0 29 v) (h : DataW.Trod enc Tryz.prog W 0 (fun _ => true) held 29 v d p) :
    ∃ s : Mk, MkW s ∧ ∀ (S Pm : Nat → Prop) (ρ : Names), (∀ b, ¬ S b) → G S Pm ρ W (.agg (mkE s)) v := by
  obtain ⟨y, hy, g⟩ := open_argL shMk (by kernel_rfl) (by kernel_rfl) hv h
  exact ⟨toMk y, mk_wf hy, g _ (mk_le y)⟩
set_option maxRecDepth 100000 in
theorem open_image {v : Value} {d : DataW H} {p : List MemPlace} (hv : Value.okWide Tryz.prog W .any b0 36 v) (h : DataW.Trod enc Tryz.prog W 0 (fun _ => true) held 36 v d p) :
    ∃ m : Img, (R64 m.w ∧ R64 m.h ∧ ∀ q ∈ m.px, P8 q) ∧ ∀ (S Pm : Nat → Prop) (ρ : Names), (∀ b, ¬ S b) → G S Pm ρ W (.agg (imgE m)) v := by
  obtain ⟨y, hy, g⟩ := open_argL shImg (by kernel_rfl) (by kernel_rfl) hv h
  exact ⟨toImg y, ⟨wfi hy.1, wfi hy.2.1, img_wf hy⟩, g _ (img_le y)⟩
set_option maxRecDepth 100000 in
theorem open_job {v : Value} {d : DataW H} {p : List MemPlace} (hv : Value.okWide Tryz.prog W .any b0 47 v) (h : DataW.Trod enc Tryz.prog W 0 (fun _ => true) held 47 v d p) :
    ∃ k : Job, (JobW k ∧ k.p.im.px.length ≤ 9223372036854775807) ∧ ∀ (S Pm : Nat → Prop) (ρ : Names), (∀ b, ¬ S b) → G S Pm ρ W (.agg (jobE k)) v := by
  obtain ⟨y, hy, g⟩ := open_argL shJob (by kernel_rfl) (by kernel_rfl) hv h
  have g := g _ (job_le y hy)
  refine ⟨toJob y, ⟨job_wf hy, ?_⟩, g⟩
  obtain ⟨vs, _, hvs⟩ := (g (fun _ => False) (fun _ => False) (fun _ => none) (fun _ h => h)).agg_inv
  have hl : 24 < vs.length := by rw [hvs.1]; exact (by decide : 24 < 75)
  exact (sl_val (hvs.2 24 (.sl pixE (toJob y).p.im.px) _ rfl (List.getElem?_eq_getElem hl))).1
def shBm2 : Sh := .ar (.cons shBm (.cons shBm .nil))
set_option maxRecDepth 100000 in
theorem open_bitmaps2 {v : Value} {d : DataW H} {p : List MemPlace} (hv : Value.okWide Tryz.prog W .any b0 72 v) (h : DataW.Trod enc Tryz.prog W 0 (fun _ => true) held 72 v d p) :
    ∃ s : Bm × Bm, (BmW s.1 ∧ BmW s.2) ∧ ∀ (S Pm : Nat → Prop) (ρ : Names), (∀ b, ¬ S b) → G S Pm ρ W (.agg (bmE s.1 ++ bmE s.2)) v := by
  obtain ⟨y, hy, g⟩ := open_argL shBm2 (by kernel_rfl) (by kernel_rfl) hv h
  exact ⟨(toBm y.1, toBm y.2.1), ⟨bm_wf hy.1, bm_wf hy.2.1⟩, g _ (LEds.append (bm_le _) (LEds.append (bm_le _) .nil))⟩
def shI2 : Sh := .ar (.cons shI (.cons shI .nil))
set_option maxRecDepth 100000 in
theorem open_int2 {v : Value} {d : DataW H} {p : List MemPlace} (hv : Value.okWide Tryz.prog W .any b0 69 v) (h : DataW.Trod enc Tryz.prog W 0 (fun _ => true) held 69 v d p) :
    ∃ s : Int × Int, (R64 s.1 ∧ R64 s.2) ∧ ∀ (S Pm : Nat → Prop) (ρ : Names), (∀ b, ¬ S b) → G S Pm ρ W (.agg [i64 s.1, i64 s.2]) v := by
  obtain ⟨y, hy, g⟩ := open_argL shI2 (by kernel_rfl) (by kernel_rfl) hv h
  exact ⟨(y.1, y.2.1), ⟨wfi hy.1, wfi hy.2.1⟩, g _ LEds.refl⟩
end

end Go.Gs
/- What the laws of fills share. -/
namespace Go.Gs
open Go.Proofs

set_option maxRecDepth 100000 in
theorem c_light26 (t : AF) : CallsG Tryz.prog 38 [.agg (afE t)] [] (pr (t.le 12)) [] := by
  refine calls_to tok mix Tryz.func38 rfl rfl rfl ?_
  refine ⟨BR, brE, coefs t, rfl, Ob.mk ⟨rfl, by decide, by decide, by decide, fun x _ => ⟨rfl, rfl, rfl⟩⟩ ?_⟩
  refine ⟨Nat, fun i => ⟨[(3, .own 0), (4, i64 i)], [(0, .arr 41 brE 4 (coefs t))], 1, 42, 0⟩, fun i => i ≤ 6 ∧ ∀ j, j < i → (t.nth j).len ≤ 12, fun i => 6 - i, 0, ?_, ?_, ?_⟩
  · exact ⟨by decide, fun j hj => by omega⟩
  · exact sub_of [(0, some 1)] rfl rfl rfl ⟨rfl, rfl, trivial⟩ ⟨rfl, trivial⟩
  rintro i ⟨h1, h2⟩
  intro hl
  have hl6 : (coefs t).length = 6 := rfl
  refine Br.mk (fun h3 => ?_) (fun h3 => ?_)
  · refine Ob.mk ⟨by omega, by omega⟩ ?_
    refine Ob.mk ⟨by omega, by omega⟩ ?_
    intro x hx
    have hx : (coefs t)[i]? = some x := hx
    have hx := coefs_at hx
    subst hx
    have hle := le_len (t.nth i)
    intro hl1
    refine Br.mk (fun h4 => LE_false (fun h => by have := coefs_le h i; omega)) (fun h4 => ?_)
    refine Ob.mk ⟨by omega, by omega⟩ ?_
    refine Ob.mk ⟨by omega, by omega⟩ ?_
    intro y hy
    have hy : (coefs t)[i]? = some y := hy
    have hy := coefs_at hy
    subst hy
    intro hl2
    refine Br.mk (fun h5 => LE_false (fun h => by have := coefs_le h i; omega)) (fun h5 => ?_)
    refine Ar.fit (by omega) ?_
    refine ⟨i + 1, ⟨by omega, fun j hj => ?_⟩, sub_of [(0, some 0)] rfl rfl rfl ⟨rfl, rfl, trivial⟩ ⟨rfl, trivial⟩, by dsimp only; omega⟩
    by_cases e : j = i
    · subst e; exact hle.2 ⟨by omega, by omega⟩
    · exact h2 j (by omega)
  · have : i = 6 := by omega
    subst this
    exact LE_true ⟨h2 0 (by decide), h2 1 (by decide), h2 2 (by decide), h2 3 (by decide), h2 4 (by decide), h2 5 (by decide)⟩
def lightJ (k : Job) : Prop := (k.d.px.length : Int) ≤ 60 ∧ (k.m.cv.length : Int) ≤ 200 ∧ k.t.le 12 ∧ k.p.t.le 12 ∧ (k.p.st.length : Int) ≤ 40 ∧ (k.p.im.px.length : Int) ≤ 200
instance instGA1 (k : Job) : Decidable (lightJ k) := inferInstanceAs (Decidable (_ ∧ _))
set_option maxRecDepth 100000 in
set_option maxHeartbeats 4000000 in
theorem c_lightJ (k : Job) : CallsG Tryz.prog 12 [.agg (jobE k)] [] (pr (lightJ k)) [] := by
  refine calls_to tok mix Tryz.func12 rfl rfl rfl ?_
  intro hl1
  refine Br.mk (fun h1 => ?_) (fun h1 => LE_false (fun h => h1 h.1))
  intro hl2
  refine Br.mk (fun h2 => ?_) (fun h2 => LE_false (fun h => h2 h.2.1))
  refine CallV.to _ (c_light26 k.t) rfl ?_
  refine Br.mk (fun h3 => ?_) (fun h3 => LE_false (fun h => h3 h.2.2.1))
  refine CallV.to _ (c_light26 k.p.t) rfl ?_
  refine Br.mk (fun h4 => ?_) (fun h4 => LE_false (fun h => h4 h.2.2.2.1))
  intro hl3
  refine Br.mk (fun h5 => ?_) (fun h5 => LE_false (fun h => h5 h.2.2.2.2.1))
  intro hl4
  exact LE_pr ⟨fun h => ⟨h1, h2, h3, h4, h5, h⟩, fun h => h.2.2.2.2.2⟩
theorem light_few {k : Job} (h : lightJ k) : fewP k.p := ⟨h.2.2.2.2.1, by have := h.2.2.2.2.2; omega, h.2.2.2.1⟩

theorem lookP_at {p : Pnt} {t : AF} (h : nbErr p t = 0) (x y : Int) : lookP p t x y = atP p t x y := by unfold lookP; rw [if_pos h]
theorem lookP_no {p : Pnt} {t : AF} (h : ¬ nbErr p t = 0) (x y : Int) : lookP p t x y = zeroP := by unfold lookP; rw [if_neg h]
/-- The brush of a paint, or none. -/
theorem c_lbrush (p : Pnt) (t : AF) (hf : fewP p) (ht : t.le 12) (h8 : P8p p) :
    ∃ B : SV, (B = nilP ∨ ∃ cs, B = .dptr cs) ∧ CallsG Tryz.prog 15 [.agg (pntE p), .agg (afE t)] [] B [] ∧
      ∀ x y : Int, CallsG Tryz.prog 45 [B, i64 x, i64 y] [] (.agg (pixE (lookP p t x y))) [] := by
  by_cases h : nbErr p t = 0
  · obtain ⟨cs, n, a⟩ := c_brush p t hf ht h8 h
    refine ⟨.dptr cs, .inr ⟨cs, rfl⟩, ?_, fun x y => lookP_at h x y ▸ a x y⟩
    refine calls_to tok mix Tryz.func15 rfl rfl rfl ?_
    refine CallV.to _ n rfl ?_
    refine Br.mk (fun k => absurd rfl k) (fun _ => ?_)
    exact .refl
  · refine ⟨nilP, .inl rfl, ?_, fun x y => (lookP_no h x y).symm ▸ c_atnil x y⟩
    refine calls_to tok mix Tryz.func15 rfl rfl rfl ?_
    refine CallV.to _ (c_brushbad p t hf ht h) rfl ?_
    refine Br.mk (fun _ => ?_) (fun k => absurd h k)
    exact .refl
theorem p_withX {B : SV} (hB : B = nilP ∨ ∃ cs, B = .dptr cs) (f : Int → Int → Pix) (hat : ∀ x y : Int, CallsG Tryz.prog 45 [B, i64 x, i64 y] [] (.agg (pixE (f x y))) []) (f8 : ∀ x y, P8 (f x y))
    (d : Bm) (m : Mk) (mode : Int) (d8 : B8 d) (m8 : ∀ c ∈ m.cv, R8 c) :
    CallsG Tryz.prog 14 [.agg (bmE d), .agg (mkE m), B, i64 mode] [] (bmR (withB f d m mode)) [(0, .arr 57 pixE 4 (withB f d m mode).1.px)] := by
  rcases hB with rfl | ⟨cs, rfl⟩
  · exact p_withNil f hat f8 d m mode d8 m8
  · exact p_withD cs f hat f8 d m mode d8 m8
theorem p_brushX {B : SV} (hB : B = nilP ∨ ∃ cs, B = .dptr cs) (f : Int → Int → Pix) (hat : ∀ x y : Int, CallsG Tryz.prog 45 [B, i64 x, i64 y] [] (.agg (pixE (f x y))) []) (r : Rc) :
    CallsG Tryz.prog 21 [.agg (rcE r), B] [] (bmR (brushB f r)) [(0, .arr 57 pixE 4 (brushB f r).1.px)] := by
  rcases hB with rfl | ⟨cs, rfl⟩
  · exact p_brushNil f hat r
  · exact p_brushD cs f hat r
def colB (d : Bm) (m : Mk) (c : Pix) : Bm × Int := withB (lookP (solidP c) zeroAF) d m 1
set_option maxRecDepth 100000 in
set_option maxHeartbeats 4000000 in
theorem p_withColor (d : Bm) (m : Mk) (c : Pix) (d8 : B8 d) (m8 : ∀ c ∈ m.cv, R8 c) (h8 : P8 c) :
    CallsG Tryz.prog 18 [.agg (bmE d), .agg (mkE m), .agg (pixE c)] [] (bmR (colB d m c)) [(0, .arr 57 pixE 4 (colB d m c).1.px)] := by
  obtain ⟨cs, n, a⟩ := c_brush (solidP c) zeroAF (solid_few _) (zeroAF_le _) (solid_8 h8) (solid_nb _ _)
  have key := p_withD cs (lookP (solidP c) zeroAF) (fun x y => lookP_at (solid_nb c zeroAF) x y ▸ a x y) (fun x y => lookP_8 _ (solid_8 h8) x y) d m 1 d8 m8
  change CallsG _ _ _ _ (bmR (colB d m c)) [(0, .arr _ pixE 4 (colB d m c).1.px)] at key
  generalize colB d m c = q at *
  refine calls_own tok mix Tryz.func18 rfl rfl rfl ?_
  refine CallV.to _ (n.args (.cons (LE_solidP c) (.cons LE_zero24 .nil))) rfl ?_
  refine CallV.fresh _ _ key rfl (fun _ _ => rfl) (.inr (fun _ _ => rfl)) ?_
  exact ⟨some 4, take_tup (.cons (take_agg (.cons (take_int rfl) (.cons (take_int rfl) (.cons (take_int rfl) (.cons (take_int rfl) (.cons (.own _ rfl) .nil)))))) (.cons (take_int rfl) .nil)), rfl, fun _ _ => rfl⟩
set_option maxRecDepth 100000 in
set_option maxHeartbeats 4000000 in
theorem r_withColor (d : Bm) (m : Mk) (c : Pix) (d8 : B8 d) (m8 : ∀ c ∈ m.cv, R8 c) (h8 : P8 c) :
    CallsG Tryz.prog 19 [.agg (bmE d), .agg (mkE m), .agg (pixE c)] [] (bmR (colB d m c)) [(0, .arr 57 pixE 4 (colB d m c).1.px)] := by
  have key := r_withBrush d m (solidP c) zeroAF 1 d8 m8 (zeroAF_le _) (zeroAF_le _) (solid_8 h8)
  change CallsG _ _ _ _ (bmR (colB d m c)) [(0, .arr _ pixE 4 (colB d m c).1.px)] at key
  generalize colB d m c = q at *
  refine calls_own tok mix Tryz.func19 rfl rfl rfl ?_
  refine CallV.fresh _ _ (key.args (.cons .refl (.cons .refl (.cons (LE_solidP c) (.cons LE_zero24 (.cons .refl .nil)))))) rfl (fun _ _ => rfl) (.inr (fun _ _ => rfl)) ?_
  exact ⟨some 4, take_tup (.cons (take_agg (.cons (take_int rfl) (.cons (take_int rfl) (.cons (take_int rfl) (.cons (take_int rfl) (.cons (.own _ rfl) .nil)))))) (.cons (take_int rfl) .nil)), rfl, fun _ _ => rfl⟩

def exB : Rc := ⟨0, 0, 2, 1⟩
def exW : Pix := ⟨255, 255, 255, 255⟩
def exD : Bm := ⟨exB, [⟨0, 0, 0, 255⟩, ⟨9, 0, 0, 9⟩]⟩
def exM : Mk := ⟨⟨0, 0, 1, 1⟩, [128]⟩
def exA : Mk := ⟨exB, [255, 255]⟩
theorem ex1 : colB exD exM exW = (⟨exB, [⟨128, 128, 128, 255⟩, ⟨9, 0, 0, 9⟩]⟩, 0) := by decide +kernel
theorem ex2 : colB exD exA exW = (⟨exB, [exW, exW]⟩, 0) := by decide +kernel
theorem ex3 : brushB (lookP (solidP exW) idA) ⟨0, 0, 1, 1⟩ = (⟨⟨0, 0, 1, 1⟩, [exW]⟩, 0) := by decide +kernel
theorem ex4 : withB (fun _ _ => zeroP) exD exM 0 = (zeroB, 2) := by decide +kernel
theorem ex5 : withB (fun _ _ => zeroP) ⟨exB, []⟩ ⟨exB, []⟩ 0 = (zeroB, 15) := by decide +kernel
theorem ex6 : tiledB exD ⟨1, 1, [exW]⟩ 3 (-4) = (⟨exB, [exW, exW]⟩, 0) := by decide +kernel
theorem ex7 : copyB exD exD ⟨1, 0, 2, 1⟩ 0 0 = (⟨exB, [⟨9, 0, 0, 9⟩, ⟨9, 0, 0, 9⟩]⟩, 0) := by decide +kernel

end Go.Gs
/- The examples of the laws of fills. -/
namespace Go.Gs
open Go.Proofs

theorem exW_8 : P8 exW := by show P8 ⟨255, 255, 255, 255⟩; exact ⟨⟨by decide, by decide⟩, ⟨by decide, by decide⟩, ⟨by decide, by decide⟩, ⟨by decide, by decide⟩⟩
theorem exD_8 : B8 exD := fun p h => by
  have h : p ∈ [(⟨0, 0, 0, 255⟩ : Pix), ⟨9, 0, 0, 9⟩] := h
  simp only [List.mem_cons, List.not_mem_nil, or_false] at h
  rcases h with rfl | rfl <;> exact ⟨⟨by decide, by decide⟩, ⟨by decide, by decide⟩, ⟨by decide, by decide⟩, ⟨by decide, by decide⟩⟩
theorem exM_8 : ∀ c ∈ exM.cv, R8 c := fun c h => by
  have h : c ∈ [(128 : Int)] := h
  simp only [List.mem_cons, List.not_mem_nil, or_false] at h
  subst h; decide
theorem exA_8 : ∀ c ∈ exA.cv, R8 c := fun c h => by
  have h : c ∈ [(255 : Int), 255] := h
  simp only [List.mem_cons, List.not_mem_nil, or_false] at h
  rcases h with rfl | rfl <;> decide
theorem nil_8 (b : Rc) : B8 ⟨b, []⟩ := fun _ h => by cases h
theorem LE_nilD (b : Rc) : LE (.agg [i64 b.x0, i64 b.y0, i64 b.x1, i64 b.y1, .val (.slice none 0 0)]) (.agg (bmE ⟨b, []⟩)) := LE_agg (.cons .refl (.cons .refl (.cons .refl (.cons .refl (.cons LE_nil0 .nil)))))
theorem LE_nilK (b : Rc) : LE (.agg [i64 b.x0, i64 b.y0, i64 b.x1, i64 b.y1, .val (.slice none 0 0)]) (.agg (mkE ⟨b, []⟩)) := LE_agg (.cons .refl (.cons .refl (.cons .refl (.cons .refl (.cons LE_nil0 .nil)))))
set_option maxRecDepth 100000 in
set_option maxHeartbeats 8000000 in
theorem c_example35 : CallsG Tryz.prog 13 [] [] (bl true) [] := by
  have n1 := p_withColor exD exM exW exD_8 exM_8 exW_8
  rw [ex1] at n1
  have n2 := p_withColor exD exA exW exD_8 exA_8 exW_8
  rw [ex2] at n2
  have n4 := p_withNil (fun _ _ => zeroP) c_atnil (fun _ _ => zero_8) exD exM 0 exD_8 exM_8
  rw [ex4] at n4
  have n5 := p_withNil (fun _ _ => zeroP) c_atnil (fun _ _ => zero_8) ⟨exB, []⟩ ⟨exB, []⟩ 0 (nil_8 _) (fun _ h => by cases h)
  rw [ex5] at n5
  have n6 := p_tiled exD ⟨1, 1, [exW]⟩ 3 (-4) exD_8 (fun q h => by cases h with | head => exact exW_8 | tail _ h => cases h) (by decide) (by decide)
  rw [ex6] at n6
  have n7 := p_copy exD exD ⟨1, 0, 2, 1⟩ 0 0 (by decide)
  rw [ex7] at n7
  obtain ⟨cs, b1, a1⟩ := c_brush (solidP exW) idA (solid_few _) idA_le12 (solid_8 exW_8) (solid_nb _ _)
  have n3 := p_brushD cs (lookP (solidP exW) idA) (fun x y => lookP_at (solid_nb exW idA) x y ▸ a1 x y) ⟨0, 0, 1, 1⟩
  rw [ex3] at n3
  have nb : CallsG Tryz.prog 15 [.agg (pntE (solidP exW)), .agg (afE idA)] [] (.dptr cs) [] := by
    refine calls_to tok mix Tryz.func15 rfl rfl rfl ?_
    refine CallV.to _ b1 rfl ?_
    refine Br.mk (fun k => absurd rfl k) (fun _ => ?_)
    exact .refl
  refine calls_to tok mix Tryz.func13 rfl rfl rfl ?_
  refine ⟨Pix, pixE, [⟨0, 0, 0, 255⟩, ⟨9, 0, 0, 9⟩], rfl, Ob.mk ⟨rfl, by decide, by decide, by decide, fun x _ => ⟨rfl, rfl, rfl⟩⟩ ?_⟩
  refine ⟨Int, u8E, [128], rfl, Ob.mk ⟨rfl, by decide, by decide, by decide, fun x _ => ⟨rfl, rfl, rfl⟩⟩ ?_⟩
  refine ⟨Int, u8E, [255, 255], rfl, Ob.mk ⟨rfl, by decide, by decide, by decide, fun x _ => ⟨rfl, rfl, rfl⟩⟩ ?_⟩
  refine CallV.fresh _ _ n1 rfl (fun _ _ => rfl) (.inr (fun _ _ => rfl)) ?_
  refine CallV.fresh _ _ n2 rfl (fun _ _ => rfl) (.inr (fun _ _ => rfl)) ?_
  refine Dr.dyn (Ob.mk (by decide +kernel) ?_)
  refine CallV.to _ r12_identity rfl ?_
  refine CallV.to _ (nb.args (.cons (LE_solidP exW) (.cons .refl .nil))) rfl ?_
  refine CallV.fresh _ _ n3 rfl (fun _ _ => rfl) (.inr (fun _ _ => rfl)) ?_
  refine Ob.mk (by kernel_rfl) ?_
  refine CallV.fresh _ _ n4 rfl (fun _ _ => rfl) (.inr (fun _ _ => rfl)) ?_
  refine CallV.fresh _ _ (n5.args (.cons (LE_nilD exB) (.cons (LE_nilK exB) (.cons .refl (.cons .refl .nil))))) rfl (fun _ _ => rfl) (.inr (fun _ _ => rfl)) ?_
  refine ⟨Pix, pixE, [exW], rfl, Ob.mk ⟨rfl, by decide, by decide, by decide, fun x _ => ⟨rfl, rfl, rfl⟩⟩ ?_⟩
  refine CallV.fresh _ _ n6 rfl (fun _ _ => rfl) (.inr (fun _ _ => rfl)) ?_
  refine CallV.fresh _ _ n7 rfl (fun _ _ => rfl) (.inr (fun _ _ => rfl)) ?_
  refine Dr.dyn (Ob.mk (by decide +kernel) ?_)
  refine Br.mk (fun h => absurd rfl h) (fun _ => ?_)
  intro _
  refine Br.mk (fun h => absurd rfl h) (fun _ => ?_)
  refine Ob.mk (by decide) ?_
  refine Ob.mk (by decide) ?_
  intro z hz
  obtain rfl : exW = z := Option.some.inj hz
  refine Br.mk (fun h => absurd (by decide) h) (fun _ => ?_)
  refine Br.mk (fun h => absurd rfl h) (fun _ => ?_)
  intro _
  refine Br.mk (fun h => absurd rfl h) (fun _ => ?_)
  refine Ob.mk (by decide) ?_
  refine Ob.mk (by decide) ?_
  intro z hz
  obtain rfl : (⟨9, 0, 0, 9⟩ : Pix) = z := Option.some.inj hz
  refine Ob.mk (by decide) ?_
  refine Ob.mk (by decide) ?_
  intro z hz
  obtain rfl : (⟨9, 0, 0, 9⟩ : Pix) = z := Option.some.inj hz
  refine Br.mk (fun h => absurd (by decide) h) (fun _ => ?_)
  refine Ob.mk (by decide) ?_
  refine Ob.mk (by decide) ?_
  intro z hz
  obtain rfl : (⟨9, 0, 0, 9⟩ : Pix) = z := Option.some.inj hz
  refine Ob.mk (by decide) ?_
  refine Ob.mk (by decide) ?_
  intro z hz
  obtain rfl : (⟨9, 0, 0, 9⟩ : Pix) = z := Option.some.inj hz
  refine Ob.mk (by kernel_rfl) ?_
  refine Br.mk (fun h => absurd (by decide) h) (fun _ => ?_)
  refine Dr.dyn (Ob.mk (by decide +kernel) ?_)
  intro _
  refine Br.mk (fun _ => ?_) (fun h => absurd rfl h)
  refine Ob.mk (by decide) ?_
  refine Ob.mk (by decide) ?_
  intro z hz
  obtain rfl : (⟨128, 128, 128, 255⟩ : Pix) = z := Option.some.inj hz
  refine Br.mk (fun _ => ?_) (fun h => absurd (by decide) h)
  refine Ob.mk (by decide) ?_
  refine Ob.mk (by decide) ?_
  intro z hz
  obtain rfl : (⟨9, 0, 0, 9⟩ : Pix) = z := Option.some.inj hz
  refine Ob.mk (by decide) ?_
  refine Ob.mk (by decide) ?_
  intro z hz
  obtain rfl : (⟨9, 0, 0, 9⟩ : Pix) = z := Option.some.inj hz
  refine Br.mk (fun _ => ?_) (fun h => absurd (by decide) h)
  refine Br.mk (fun _ => ?_) (fun h => absurd rfl h)
  intro _
  refine Br.mk (fun _ => ?_) (fun h => absurd rfl h)
  refine Ob.mk (by decide) ?_
  refine Ob.mk (by decide) ?_
  intro z hz
  obtain rfl : exW = z := Option.some.inj hz
  refine Br.mk (fun _ => ?_) (fun h => absurd (by decide) h)
  refine Br.mk (fun _ => ?_) (fun h => absurd rfl h)
  intro _
  refine Br.mk (fun _ => ?_) (fun h => absurd rfl h)
  refine Ob.mk (by decide) ?_
  refine Ob.mk (by decide) ?_
  intro z hz
  obtain rfl : exW = z := Option.some.inj hz
  refine Br.mk (fun _ => ?_) (fun h => absurd (by decide) h)
  refine Br.mk (fun _ => ?_) (fun h => absurd rfl h)
  refine Br.mk (fun _ => ?_) (fun h => absurd rfl h)
  refine Ob.mk (by kernel_rfl) ?_
  exact LE_yes rfl

end Go.Gs
/- The laws WithColor, BrushBitmap, BlendOver of fills. -/
namespace Go.Gs
open Go.Proofs

set_option maxRecDepth 100000 in
set_option maxHeartbeats 8000000 in
theorem c_lawColor (d : Bm) (m : Mk) (c : Pix) (d8 : BmW d) (m8 : MkW m) (h8 : P8 c) : CallsG Tryz.prog 4 [.agg (bmE d), .agg (mkE m), .agg (pixE c)] [] (bl true) [] := by
  have n1 := p_withColor d m c d8.2 m8.2 h8
  have n2 := r_withColor d m c d8.2 m8.2 h8
  generalize colB d m c = q at *
  refine calls_to tok mix Tryz.func4 rfl rfl rfl ?_
  intro _
  refine Br.mk (fun _ => ?_) (fun _ => ?_)
  · refine CallV.to _ c_example35 rfl ?_
    exact .refl
  intro _
  refine Br.mk (fun _ => ?_) (fun _ => ?_)
  · refine CallV.to _ c_example35 rfl ?_
    exact .refl
  refine CallV.fresh _ _ n1 rfl (fun _ _ => rfl) (.inr (fun _ _ => rfl)) ?_
  refine CallV.fresh _ _ n2 rfl (fun _ _ => rfl) (.inr (fun _ _ => rfl)) ?_
  refine CallV.to _ (r_bequal q.1 q.1) rfl ?_
  refine Br.mk (fun _ => ?_) (fun h => absurd rfl h)
  refine Br.mk (fun _ => ?_) (fun h => absurd rfl h)
  refine CallV.to _ c_example35 rfl ?_
  exact .refl
theorem canon_ok {r : Rc} (h : r.canon = r) : r.ok := by
  rcases Rc.canon_self h with rfl | k
  · decide
  · exact (Rc.notmt k).1
theorem withB_bad {f : Int → Int → Pix} {d : Bm} {m : Mk} {mode : Int} (h : ¬ (withB f d m mode).2 = 0) : (withB f d m mode).1 = zeroB := by
  unfold withB at *
  split at h
  · rw [if_pos ‹_›]
  · rw [if_neg ‹_›]
    split at h
    · rw [if_pos ‹_›]
    · rw [if_neg ‹_›]
      split at h
      · rw [if_pos ‹_›]
      · exact absurd rfl h
theorem withB_good {f : Int → Int → Pix} {d : Bm} {m : Mk} {mode : Int} (h : (withB f d m mode).2 = 0) : d.ok ∧ m.ok ∧ modeOK mode ∧ withB f d m mode = (⟨d.b, grid d.b fun x y => coverP mode (f x y) (d.at_ x y) (m.at_ x y)⟩, 0) := by
  unfold withB at *
  split at h
  · exact absurd h (show ¬ (15 : Int) = 0 by decide)
  · rename_i h1
    rw [if_neg h1]
    split at h
    · exact absurd h (show ¬ (14 : Int) = 0 by decide)
    · rename_i h2
      rw [if_neg h2]
      split at h
      · exact absurd h (show ¬ (2 : Int) = 0 by decide)
      · rename_i h3
        rw [if_neg h3]
        exact ⟨Decidable.not_not.1 h1, Decidable.not_not.1 h2, Decidable.not_not.1 h3, rfl⟩
theorem brushB_good {f : Int → Int → Pix} {r : Rc} (h : r.canon = r) (hA : r.area ≤ 65536) : brushB f r = (⟨r, grid r f⟩, 0) := by
  unfold brushB
  rw [if_neg (fun k => k (canon_ok h)), if_neg (by omega), h]
theorem grid_8 {r : Rc} {f : Int → Int → Pix} (hr : r.canon = r) (h : ∀ x y, P8 (f x y)) : B8 ⟨r, grid r f⟩ := fun p hp => by
  obtain ⟨x, y, _, rfl⟩ := grid_mem hr hp
  exact h x y
theorem grid_ok {r : Rc} {f : Int → Int → Pix} (hr : r.canon = r) (hA : r.area ≤ 65536) (h : ∀ x y, pxOK (f x y)) : Bm.ok ⟨r, grid r f⟩ :=
  ⟨hr, hA, by show ((grid r f).length : Int) = r.area; rw [grid_len]; have := r.area_range; omega, fun p hp => by
    obtain ⟨x, y, _, rfl⟩ := grid_mem hr hp
    exact h x y⟩
theorem grid_val {r : Rc} {f : Int → Int → Pix} {x y : Int} (h : r.has x y) : Bm.at_ ⟨r, grid r f⟩ x y = f x y := by
  unfold Bm.at_
  rw [if_pos h]
  show (Option.getD (grid r f)[(r.idx x y).toNat]? zeroP) = _
  rw [grid_at h]; rfl
theorem over_brush {f : Int → Int → Pix} {d : Bm} {m : Mk} {mode : Int} (hd : d.ok) (hm : m.ok) (ho : modeOK mode) (hf : ∀ x y, pxOK (f x y)) :
    overB mode ⟨d.b, grid d.b f⟩ d m = (⟨d.b, grid d.b fun x y => coverP mode (f x y) (d.at_ x y) (m.at_ x y)⟩, 0) := by
  unfold overB
  rw [if_neg (fun k => k ⟨grid_ok hd.1 hd.2.1 hf, hd⟩), if_neg (fun k => k hm), if_neg (fun k => k ho)]
  congr 2
  exact grid_congr hd.1 fun x y h => by rw [grid_val h]

theorem lookP_ok {p : Pnt} (t : AF) (h8 : P8p p) (x y : Int) : pxOK (lookP p t x y) := by
  unfold lookP
  split
  · rename_i h
    exact atP_ok h8
  · exact ⟨by decide, by decide, by decide⟩
set_option maxRecDepth 100000 in
set_option maxHeartbeats 16000000 in
theorem c_lawBlendOver (k : Job) (hw : JobW k) : CallsG Tryz.prog 6 [.agg (jobE k)] [] (bl true) [] := by
  obtain ⟨⟨_, d8⟩, ⟨_, m8⟩, h8, _⟩ := hw
  refine calls_to tok mix Tryz.func6 rfl rfl rfl ?_
  refine CallV.to _ (c_lightJ k) rfl ?_
  refine Br.mk (fun _ => ?_) (fun h1 => ?_)
  · refine CallV.to _ c_example35 rfl ?_
    exact .refl
  have hl := Decidable.not_not.1 h1
  obtain ⟨B, hB, nb, hat⟩ := c_lbrush k.p k.t (light_few hl) hl.2.2.1 h8
  have n1 := p_withX hB (lookP k.p k.t) hat (lookP_8 k.t h8) k.d k.m k.mode d8 m8
  have hB' := hB
  rcases hB' with rfl | ⟨cs, rfl⟩
  · refine CallV.to _ nb rfl ?_
    refine CallV.fresh _ _ n1 rfl (fun _ _ => rfl) (.inr (fun _ _ => rfl)) ?_
    refine Br.mk (fun h2 => ?_) (fun h2 => ?_)
    · have e := withB_bad h2
      refine CallV.to _ ((r_bequal (withB (lookP k.p k.t) k.d k.m k.mode).1 zeroB).args (.cons .refl (.cons LE_nilB .nil))) rfl ?_
      refine Br.mk (fun _ => ?_) (fun h => absurd e h)
      refine CallV.to _ c_example35 rfl ?_
      exact .refl
    obtain ⟨hd, hm, ho, eq⟩ := withB_good (Decidable.not_not.1 h2)
    have n3 := p_brushX hB (lookP k.p k.t) hat k.d.b
    rw [brushB_good hd.1 hd.2.1] at n3
    have n4 := p_over k.mode ⟨k.d.b, grid k.d.b (lookP k.p k.t)⟩ k.d k.m (grid_8 hd.1 (lookP_8 k.t h8)) d8 m8
    rw [over_brush hd hm ho (lookP_ok k.t h8), ← eq] at n4
    have hv : (withB (lookP k.p k.t) k.d k.m k.mode).1.ok := by
      rw [eq]
      exact grid_ok hd.1 hd.2.1 fun x y => (coverP_ok ho (lookP_8 k.t h8 x y) (Bm.at_8 d8 x y) (Mk.at_8 m8 x y)).1
    refine CallV.fresh _ _ n3 rfl (fun _ _ => rfl) (.inr (fun _ _ => rfl)) ?_
    refine CallV.fresh _ _ n4 rfl (fun _ _ => rfl) (.inr (fun _ _ => rfl)) ?_
    refine Br.mk (fun _ => ?_) (fun h => absurd rfl h)
    refine Br.mk (fun _ => ?_) (fun h => absurd (Decidable.not_not.1 h2) h)
    refine CallV.to _ (r_bequal (withB (lookP k.p k.t) k.d k.m k.mode).1 (withB (lookP k.p k.t) k.d k.m k.mode).1) rfl ?_
    refine Br.mk (fun _ => ?_) (fun h => absurd rfl h)
    refine CallV.to _ (r_bvalid (withB (lookP k.p k.t) k.d k.m k.mode).1) rfl ?_
    refine Br.mk (fun _ => ?_) (fun h => absurd hv h)
    refine CallV.to _ c_example35 rfl ?_
    exact .refl
  · refine CallV.to _ nb rfl ?_
    refine CallV.fresh _ _ n1 rfl (fun _ _ => rfl) (.inr (fun _ _ => rfl)) ?_
    refine Br.mk (fun h2 => ?_) (fun h2 => ?_)
    · have e := withB_bad h2
      refine CallV.to _ ((r_bequal (withB (lookP k.p k.t) k.d k.m k.mode).1 zeroB).args (.cons .refl (.cons LE_nilB .nil))) rfl ?_
      refine Br.mk (fun _ => ?_) (fun h => absurd e h)
      refine CallV.to _ c_example35 rfl ?_
      exact .refl
    obtain ⟨hd, hm, ho, eq⟩ := withB_good (Decidable.not_not.1 h2)
    have n3 := p_brushX hB (lookP k.p k.t) hat k.d.b
    rw [brushB_good hd.1 hd.2.1] at n3
    have n4 := p_over k.mode ⟨k.d.b, grid k.d.b (lookP k.p k.t)⟩ k.d k.m (grid_8 hd.1 (lookP_8 k.t h8)) d8 m8
    rw [over_brush hd hm ho (lookP_ok k.t h8), ← eq] at n4
    have hv : (withB (lookP k.p k.t) k.d k.m k.mode).1.ok := by
      rw [eq]
      exact grid_ok hd.1 hd.2.1 fun x y => (coverP_ok ho (lookP_8 k.t h8 x y) (Bm.at_8 d8 x y) (Mk.at_8 m8 x y)).1
    refine CallV.fresh _ _ n3 rfl (fun _ _ => rfl) (.inr (fun _ _ => rfl)) ?_
    refine CallV.fresh _ _ n4 rfl (fun _ _ => rfl) (.inr (fun _ _ => rfl)) ?_
    refine Br.mk (fun _ => ?_) (fun h => absurd rfl h)
    refine Br.mk (fun _ => ?_) (fun h => absurd (Decidable.not_not.1 h2) h)
    refine CallV.to _ (r_bequal (withB (lookP k.p k.t) k.d k.m k.mode).1 (withB (lookP k.p k.t) k.d k.m k.mode).1) rfl ?_
    refine Br.mk (fun _ => ?_) (fun h => absurd rfl h)
    refine CallV.to _ (r_bvalid (withB (lookP k.p k.t) k.d k.m k.mode).1) rfl ?_
    refine Br.mk (fun _ => ?_) (fun h => absurd hv h)
    refine CallV.to _ c_example35 rfl ?_
    exact .refl

set_option maxRecDepth 100000 in
set_option maxHeartbeats 16000000 in
theorem c_lawBrushBitmap (k : Job) (r : Rc) (hw : JobW k) : CallsG Tryz.prog 5 [.agg (jobE k), .agg (rcE r)] [] (bl true) [] := by
  obtain ⟨⟨_, d8⟩, ⟨_, m8⟩, h8, _⟩ := hw
  refine calls_to tok mix Tryz.func5 rfl rfl rfl ?_
  refine CallV.to _ (c_lightJ k) rfl ?_
  refine Br.mk (fun _ => ?_) (fun h1 => ?_)
  · refine CallV.to _ c_example35 rfl ?_
    exact .refl
  have hl := Decidable.not_not.1 h1
  obtain ⟨B, hB, nb, hat⟩ := c_lbrush k.p k.t (light_few hl) hl.2.2.1 h8
  have n1 := p_brushX hB (lookP k.p k.t) hat r
  have n2 := r_brushB r k.p k.t hl.2.2.2.1 hl.2.2.1 h8
  generalize brushB (lookP k.p k.t) r = q at *
  refine CallV.to _ (r_area r) rfl ?_
  rcases hB with rfl | ⟨cs, rfl⟩
  · refine Br.mk (fun _ => ?_) (fun _ => ?_)
    · refine CallV.to _ (r_area r) rfl ?_
      refine Br.mk (fun _ => ?_) (fun _ => ?_)
      · refine CallV.to _ c_example35 rfl ?_
        exact .refl
      · refine Dr.dyn (Ob.mk (by decide +kernel) ?_)
        refine CallV.to _ nb rfl ?_
        refine CallV.fresh _ _ n1 rfl (fun _ _ => rfl) (.inr (fun _ _ => rfl)) ?_
        refine Ob.mk (by kernel_rfl) ?_
        refine CallV.fresh _ _ n2 rfl (fun _ _ => rfl) (.inr (fun _ _ => rfl)) ?_
        refine CallV.to _ (r_bequal q.1 q.1) rfl ?_
        refine Br.mk (fun _ => ?_) (fun h => absurd rfl h)
        refine Br.mk (fun _ => ?_) (fun h => absurd rfl h)
        refine CallV.to _ c_example35 rfl ?_
        exact .refl
    · refine Dr.dyn (Ob.mk (by decide +kernel) ?_)
      refine CallV.to _ nb rfl ?_
      refine CallV.fresh _ _ n1 rfl (fun _ _ => rfl) (.inr (fun _ _ => rfl)) ?_
      refine Ob.mk (by kernel_rfl) ?_
      refine CallV.fresh _ _ n2 rfl (fun _ _ => rfl) (.inr (fun _ _ => rfl)) ?_
      refine CallV.to _ (r_bequal q.1 q.1) rfl ?_
      refine Br.mk (fun _ => ?_) (fun h => absurd rfl h)
      refine Br.mk (fun _ => ?_) (fun h => absurd rfl h)
      refine CallV.to _ c_example35 rfl ?_
      exact .refl
  · refine Br.mk (fun _ => ?_) (fun _ => ?_)
    · refine CallV.to _ (r_area r) rfl ?_
      refine Br.mk (fun _ => ?_) (fun _ => ?_)
      · refine CallV.to _ c_example35 rfl ?_
        exact .refl
      · refine Dr.dyn (Ob.mk (by decide +kernel) ?_)
        refine CallV.to _ nb rfl ?_
        refine CallV.fresh _ _ n1 rfl (fun _ _ => rfl) (.inr (fun _ _ => rfl)) ?_
        refine Ob.mk (by kernel_rfl) ?_
        refine CallV.fresh _ _ n2 rfl (fun _ _ => rfl) (.inr (fun _ _ => rfl)) ?_
        refine CallV.to _ (r_bequal q.1 q.1) rfl ?_
        refine Br.mk (fun _ => ?_) (fun h => absurd rfl h)
        refine Br.mk (fun _ => ?_) (fun h => absurd rfl h)
        refine CallV.to _ c_example35 rfl ?_
        exact .refl
    · refine Dr.dyn (Ob.mk (by decide +kernel) ?_)
      refine CallV.to _ nb rfl ?_
      refine CallV.fresh _ _ n1 rfl (fun _ _ => rfl) (.inr (fun _ _ => rfl)) ?_
      refine Ob.mk (by kernel_rfl) ?_
      refine CallV.fresh _ _ n2 rfl (fun _ _ => rfl) (.inr (fun _ _ => rfl)) ?_
      refine CallV.to _ (r_bequal q.1 q.1) rfl ?_
      refine Br.mk (fun _ => ?_) (fun h => absurd rfl h)
      refine Br.mk (fun _ => ?_) (fun h => absurd rfl h)
      refine CallV.to _ c_example35 rfl ?_
      exact .refl

end Go.Gs
/- A bitmap laid over another, and the law that copying all of it is that. -/
namespace Go.Gs
open Go.Proofs

def pasteF (d s : Bm) (u v : Int) : Pix := if s.b.has u v then s.at_ u v else d.at_ u v
def pasteB (d s : Bm) : Bm × Int := if ¬ (d.ok ∧ s.ok) then (zeroB, 15) else (⟨d.b, grid d.b (pasteF d s)⟩, 0)

set_option maxRecDepth 100000 in
set_option maxHeartbeats 4000000 in
theorem r_paste (d s : Bm) : CallsG Tryz.prog 37 [.agg (bmE d), .sl bmE [s]] [] (bmR (pasteB d s)) [(0, .arr 57 pixE 4 (pasteB d s).1.px)] := by
  generalize hq : pasteB d s = q
  refine calls_own tok mix Tryz.func37 rfl rfl rfl ?_
  refine CallV.to _ (r_bvalid d) rfl ?_
  refine Br.mk (fun h1 => ⟨none, bad_bm (q := q) (e := 15) (by rw [← hq, pasteB, if_pos (fun k => h1 k.1)])⟩) (fun h1 => ?_)
  have hd := Decidable.not_not.1 h1
  refine ⟨Int, fun i => ⟨[(6, i64 i), (1, .sl bmE [s]), (2, .loc 0 0), (4, .loc 1 0), (5, i64 0)], [(1, .box 26 nilB), (0, .box 26 (bmE d))], 2, 84, 0⟩,
    fun i => i = 0 ∨ (i = 1 ∧ s.ok), fun i => (1 - i).toNat, 0, ?_, ?_, ?_⟩
  · exact .inl rfl
  · exact sub_of [(0, some 0), (1, some 1)] rfl rfl rfl ⟨rfl, rfl, rfl, rfl, rfl, trivial⟩ ⟨rfl, rfl, trivial⟩
  rintro i hi
  intro hl0
  refine Br.mk (fun g1 => ?_) (fun g1 => ?_)
  · have g1 : i < 1 := g1
    have e0 : i = 0 := by omega
    subst e0
    refine Ob.mk (by show (0 : Int) ≤ 0 ∧ (0 : Int) < 1; omega) ?_
    intro x hx
    obtain rfl : s = x := Option.some.inj hx
    refine CallV.to _ (r_bvalid s) rfl ?_
    refine Br.mk (fun h2 => ⟨none, bad_bm (q := q) (e := 15) (by rw [← hq, pasteB, if_pos (fun k => h2 k.2)])⟩) (fun h2 => ?_)
    have hs := Decidable.not_not.1 h2
    refine Ar.fit (by omega) ?_
    exact ⟨1, .inr ⟨rfl, hs⟩, sub_of [(0, some 0), (1, some 1)] rfl rfl rfl ⟨rfl, rfl, rfl, rfl, rfl, trivial⟩ ⟨rfl, rfl, trivial⟩, by decide⟩
  have g1 : ¬ i < 1 := g1
  have hs : s.ok := (hi.resolve_left (fun h => by omega)).2
  obtain ⟨g, hg⟩ : ∃ g, g = pasteF d s := ⟨_, rfl⟩
  have e : q = (⟨d.b, grid d.b g⟩, 0) := by rw [← hq, pasteB, if_neg (fun k => k ⟨hd, hs⟩), hg]
  have gy : ∀ u v, s.b.has u v → s.at_ u v = g u v := fun u v a => by rw [hg, pasteF, if_pos a]
  have gn : ∀ u v, ¬ s.b.has u v → d.at_ u v = g u v := fun u v a => by rw [hg, pasteF, if_neg a]
  have hc := hd.1
  have hA := hd.2.1
  have hl := hd.2.2.1
  clear hg hq
  subst e
  have hsd := Rc.sides hc
  unfold inRc at hsd
  have ew : d.b.w = d.b.x1 - d.b.x0 := rfl
  have eh : d.b.h = d.b.y1 - d.b.y0 := rfl
  refine ⟨Nat, fun i => ⟨[(8, i64 (d.b.y0 + (i : Int))), (1, .sl bmE [s]), (2, .loc 0 0), (4, .loc 1 0), (5, i64 0), (7, .loc 2 0)], [(3, .arr 57 pixE 4 (gridN d.b (g) (i * d.b.w.toNat))), (2, .box 26 [i64 d.b.x0, i64 d.b.y0, i64 d.b.x1, i64 d.b.y1, .own 3]), (1, .box 26 nilB), (0, .box 26 (bmE d))], 4, 84, 0⟩,
    fun i => (i : Int) ≤ d.b.h, fun i => (d.b.h - i).toNat, 0, ?_, ?_, ?_⟩
  · show (0 : Int) ≤ d.b.h; omega
  · exact sub_of [(0, some 0), (1, some 1), (2, some 2), (3, none)] rfl rfl rfl ⟨congrArg (fun n => some (i64 n)) (show d.b.y0 = d.b.y0 + ((0 : Nat) : Int) by omega), rfl, rfl, rfl, rfl, rfl, trivial⟩ ⟨by rw [Nat.zero_mul]; rfl, rfl, rfl, rfl, trivial⟩
  rintro i hi
  have hi : (i : Int) ≤ d.b.h := hi
  refine Br.mk (fun g9 => ?_) (fun g9 => ?_)
  · have g9 : (i : Int) < d.b.h := by omega
    refine ⟨Nat, fun j => ⟨[(9, i64 (d.b.x0 + (j : Int))), (8, i64 (d.b.y0 + (i : Int))), (1, .sl bmE [s]), (2, .loc 0 0), (4, .loc 1 0), (5, i64 0), (7, .loc 2 0)], [(3, .arr 57 pixE 4 (gridN d.b (g) (i * d.b.w.toNat + j))), (2, .box 26 [i64 d.b.x0, i64 d.b.y0, i64 d.b.x1, i64 d.b.y1, .own 3]), (1, .box 26 nilB), (0, .box 26 (bmE d))], 4, 84, 0⟩,
      fun j => (j : Int) ≤ d.b.w, fun j => (d.b.w - j).toNat, 0, ?_, ?_, ?_⟩
    · show (0 : Int) ≤ d.b.w; omega
    · exact sub_of [(0, some 0), (1, some 1), (2, some 2), (3, some 3)] rfl rfl rfl ⟨congrArg (fun n => some (i64 n)) (show d.b.x0 = d.b.x0 + ((0 : Nat) : Int) by omega), rfl, rfl, rfl, rfl, rfl, rfl, trivial⟩ ⟨rfl, rfl, rfl, rfl, trivial⟩
    rintro j hj
    have hj : (j : Int) ≤ d.b.w := hj
    refine Br.mk (fun k1 => ?_) (fun k1 => ?_)
    · have k1 : (j : Int) < d.b.w := by omega
      have hpl := grid_place hc g9 k1
      have hij := hpl.2.1
      refine CallV.to _ (r_bat d hd (d.b.x0 + (j : Int)) (d.b.y0 + (i : Int))) rfl ?_
      refine ⟨Int × Pix, fun z => ⟨[(11, i64 z.1), (9, i64 (d.b.x0 + (j : Int))), (8, i64 (d.b.y0 + (i : Int))), (1, .sl bmE [s]), (2, .loc 0 0), (4, .loc 1 0), (5, i64 0), (7, .loc 2 0), (10, .loc 4 0)], [(4, .box 57 (pixE z.2)), (3, .arr 57 pixE 4 (gridN d.b (g) (i * d.b.w.toNat + j))), (2, .box 26 [i64 d.b.x0, i64 d.b.y0, i64 d.b.x1, i64 d.b.y1, .own 3]), (1, .box 26 nilB), (0, .box 26 (bmE d))], 5, 84, 0⟩,
        fun z => (z.1 = 0 ∧ z.2 = d.at_ (d.b.x0 + (j : Int)) (d.b.y0 + (i : Int))) ∨ (z.1 = 1 ∧ z.2 = g (d.b.x0 + (j : Int)) (d.b.y0 + (i : Int))), fun z => (1 - z.1).toNat, (0, d.at_ (d.b.x0 + (j : Int)) (d.b.y0 + (i : Int))), ?_, ?_, ?_⟩
      · exact .inl ⟨rfl, rfl⟩
      · exact sub_of [(0, some 0), (1, some 1), (2, some 2), (3, some 3), (4, some 4)] rfl rfl rfl ⟨rfl, rfl, rfl, rfl, rfl, rfl, rfl, rfl, rfl, trivial⟩ ⟨rfl, rfl, rfl, rfl, rfl, trivial⟩
      rintro ⟨n, p⟩ hz
      have hz : (n = 0 ∧ p = d.at_ (d.b.x0 + (j : Int)) (d.b.y0 + (i : Int))) ∨ (n = 1 ∧ p = g (d.b.x0 + (j : Int)) (d.b.y0 + (i : Int))) := hz
      intro hl4
      refine Br.mk (fun b1 => ?_) (fun b1 => ?_)
      · have b1 : n < 1 := b1
        have hz : n = 0 ∧ p = d.at_ (d.b.x0 + (j : Int)) (d.b.y0 + (i : Int)) := hz.resolve_right (fun h => by omega)
        obtain ⟨rfl, rfl⟩ := hz
        refine Ob.mk (by show (0 : Int) ≤ 0 ∧ (0 : Int) < 1; omega) ?_
        intro x hx
        have ex : x = s := List.mem_singleton.1 (List.mem_of_getElem? hx)
        refine CallV.to _ (r_has x.b (d.b.x0 + (j : Int)) (d.b.y0 + (i : Int))) rfl ?_
        refine Br.mk (fun b2 => ?_) (fun b2 => ?_)
        · refine Ob.mk (by show (0 : Int) ≤ 0 ∧ (0 : Int) < 1; omega) ?_
          intro y hy
          have ey : y = s := List.mem_singleton.1 (List.mem_of_getElem? hy)
          refine CallV.to _ (r_bat y (ey ▸ hs) (d.b.x0 + (j : Int)) (d.b.y0 + (i : Int))) rfl ?_
          refine Ar.fit (by omega) ?_
          exact ⟨(1, g (d.b.x0 + (j : Int)) (d.b.y0 + (i : Int))), .inr ⟨rfl, rfl⟩, sub_of [(0, some 0), (1, some 1), (2, some 2), (3, some 3), (4, some 4)] rfl rfl rfl ⟨rfl, rfl, rfl, rfl, rfl, rfl, rfl, rfl, rfl, trivial⟩ ⟨congrArg (fun p => some (Mem.box 57 (pixE p))) ((congrArg (fun z => Bm.at_ z (d.b.x0 + (j : Int)) (d.b.y0 + (i : Int))) ey).trans (gy _ _ (ex ▸ b2))), rfl, rfl, rfl, rfl, trivial⟩, (by show (1 - (1 : Int)).toNat < (1 - (0 : Int)).toNat; decide)⟩
        · refine Ar.fit (by omega) ?_
          exact ⟨(1, g (d.b.x0 + (j : Int)) (d.b.y0 + (i : Int))), .inr ⟨rfl, rfl⟩, sub_of [(0, some 0), (1, some 1), (2, some 2), (3, some 3), (4, some 4)] rfl rfl rfl ⟨rfl, rfl, rfl, rfl, rfl, rfl, rfl, rfl, rfl, trivial⟩ ⟨congrArg (fun p => some (Mem.box 57 (pixE p))) (gn _ _ (ex ▸ b2)), rfl, rfl, rfl, rfl, trivial⟩, (by show (1 - (1 : Int)).toNat < (1 - (0 : Int)).toNat; decide)⟩
      · have b1 : ¬ n < 1 := b1
        have hz : n = 1 ∧ p = g (d.b.x0 + (j : Int)) (d.b.y0 + (i : Int)) := hz.resolve_left (fun h => by omega)
        obtain ⟨rfl, rfl⟩ := hz
        refine ⟨Pix, pixE, [g (d.b.x0 + (j : Int)) (d.b.y0 + (i : Int))], rfl, Ob.mk (gOne _) ?_⟩
        refine ⟨_, rfl, Ob.mk (gApp _ (by rw [gridN_len]; omega)) ?_⟩
        refine Ar.fit (by omega) ?_
        refine ⟨j + 1, (by show ((j + 1 : Nat) : Int) ≤ d.b.w; omega), sub_of [(0, some 0), (1, some 1), (2, some 2), (3, some 6)] rfl rfl rfl
          ⟨congrArg (fun n => some (i64 n)) (show d.b.x0 + j + 1 = d.b.x0 + ((j + 1 : Nat) : Int) by omega), rfl, rfl, rfl, rfl, rfl, rfl, trivial⟩
          ⟨congrArg (fun l => some (Mem.arr 57 pixE 4 l)) (gridN_step k1), rfl, rfl, rfl, trivial⟩, (by dsimp only; omega)⟩
    · have hjw : j = d.b.w.toNat := by omega
      refine Ar.fit (by omega) ?_
      refine ⟨i + 1, (by show ((i + 1 : Nat) : Int) ≤ d.b.h; omega), sub_of [(0, some 0), (1, some 1), (2, some 2), (3, some 3)] rfl rfl rfl
        ⟨congrArg (fun n => some (i64 n)) (show d.b.y0 + i + 1 = d.b.y0 + ((i + 1 : Nat) : Int) by omega), rfl, rfl, rfl, rfl, rfl, trivial⟩
        ⟨congrArg (fun l => some (Mem.arr 57 pixE 4 l)) (by rw [hjw, gridN_row]), rfl, rfl, rfl, trivial⟩, (by dsimp only; omega)⟩
  · have hih : i = d.b.h.toNat := by omega
    exact ⟨some 3, take_tup (.cons (take_agg (.cons (take_int rfl) (.cons (take_int rfl) (.cons (take_int rfl) (.cons (take_int rfl) (.cons (.own _ rfl) .nil)))))) (.cons (take_int rfl) .nil)), by rw [hih, ← gridN_full hc]; rfl, fun _ _ => rfl⟩

theorem paste_all {d s : Bm} (hd : d.ok) (hs : s.ok) : copyB d s s.b s.b.x0 s.b.y0 = pasteB d s := by
  have ho := canon_ok hs.1
  have e1 : copyB d s s.b s.b.x0 s.b.y0 = (⟨d.b, grid d.b (copyF d s s.b s.b.x0 s.b.y0)⟩, 0) := by rw [copyB, if_neg (fun k => k ⟨hd, hs⟩), if_neg (fun k => k ⟨ho, ho.1, ho.2.1⟩)]
  have e2 : pasteB d s = (⟨d.b, grid d.b (pasteF d s)⟩, 0) := by rw [pasteB, if_neg (fun k => k ⟨hd, hs⟩)]
  rw [e1, e2]
  congr 2
  refine grid_congr hd.1 fun x y _ => ?_
  unfold copyF pasteF
  rw [Int.sub_add_cancel, Int.sub_add_cancel]
  by_cases h : s.b.has x y
  · rw [if_pos ⟨h, h⟩, if_pos h]
  · rw [if_neg (fun k => h k.1), if_neg h]
theorem copy_back {d s : Bm} (hd : d.ok) (hs : s.ok) (he : s.b = d.b) : copyB s d d.b d.b.x0 d.b.y0 = (d, 0) := by
  have ho := canon_ok hd.1
  unfold copyB
  rw [if_neg (fun k => k ⟨hs, hd⟩), if_neg (fun k => k ⟨ho, ho.1, ho.2.1⟩), he]
  have e : grid d.b (copyF s d d.b d.b.x0 d.b.y0) = d.px := by
    rw [Bm.grid hd]
    refine grid_congr hd.1 fun x y h => ?_
    unfold copyF
    rw [Int.sub_add_cancel, Int.sub_add_cancel, if_pos ⟨h, h⟩]
  rw [e]
theorem copy_self {d : Bm} (hd : d.ok) {r : Rc} (h : r.ok ∧ inRc r.x0 ∧ inRc r.y0) : copyB d d r r.x0 r.y0 = (d, 0) := by
  unfold copyB
  rw [if_neg (fun k => k ⟨hd, hd⟩), if_neg (fun k => k h)]
  have e : grid d.b (copyF d d r r.x0 r.y0) = d.px := by
    rw [Bm.grid hd]
    refine grid_congr hd.1 fun x y _ => ?_
    unfold copyF
    rw [Int.sub_add_cancel, Int.sub_add_cancel]
    split <;> rfl
  rw [e]
theorem copy_self_bad {d : Bm} (hd : d.ok) {r : Rc} (h : ¬ (r.ok ∧ inRc r.x0 ∧ inRc r.y0)) : copyB d d r r.x0 r.y0 = (zeroB, 6) := by
  unfold copyB
  rw [if_neg (fun k => k ⟨hd, hd⟩), if_pos h]
theorem pasteF_ok {d s : Bm} (hd : d.ok) (hs : s.ok) (x y : Int) : pxOK (pasteF d s x y) := by
  unfold pasteF
  split
  · exact Bm.at_ok hs x y
  · exact Bm.at_ok hd x y

set_option maxRecDepth 100000 in
set_option maxHeartbeats 16000000 in
theorem c_lawCopyRectPaste (l : Bm × Bm) (r : Rc) (hw : BmW l.1 ∧ BmW l.2) : CallsG Tryz.prog 11 [.agg (bmE l.1 ++ bmE l.2), .agg (rcE r)] [] (bl true) [] := by
  obtain ⟨d, s⟩ := l
  refine calls_to tok mix Tryz.func11 rfl rfl rfl ?_
  intro hl0
  refine Br.mk (fun _ => ?_) (fun g1 => ?_)
  · refine CallV.to _ c_example35 rfl ?_
    exact .refl
  intro hl2
  refine Br.mk (fun _ => ?_) (fun g2 => ?_)
  · refine CallV.to _ c_example35 rfl ?_
    exact .refl
  have g1 : ¬ 300 < (d.px.length : Int) := g1
  have g2 : ¬ 300 < (s.px.length : Int) := g2
  have n1 := p_copy d s s.b s.b.x0 s.b.y0 (by omega)
  have n2 := r_paste d s
  refine Dr.dyn (Ob.mk (by decide +kernel) ?_)
  refine Ob.mk (by kernel_rfl) ?_
  by_cases hds : d.ok ∧ s.ok
  · obtain ⟨hd, hs⟩ := hds
    have ep : pasteB d s = (⟨d.b, grid d.b (pasteF d s)⟩, 0) := by rw [pasteB, if_neg (fun k => k ⟨hd, hs⟩)]
    have ob : Bm.ok ⟨d.b, grid d.b (pasteF d s)⟩ := grid_ok hd.1 hd.2.1 (pasteF_ok hd hs)
    have lb : (grid d.b (pasteF d s)).length = d.px.length := by have := ob.2.2.1; have := hd.2.2.1; dsimp only at *; omega
    have n3 := p_copy ⟨d.b, grid d.b (pasteF d s)⟩ d d.b d.b.x0 d.b.y0 (by show (grid d.b (pasteF d s)).length ≤ 1000; omega)
    have n4 := p_copy d d r r.x0 r.y0 (by omega)
    rw [paste_all hd hs, ep] at n1
    rw [ep] at n2
    rw [copy_back hd ob rfl] at n3
    clear ep ob lb
    generalize grid d.b (pasteF d s) = L at *
    refine CallV.fresh _ _ n1 rfl (fun _ _ => rfl) (.inr (fun _ _ => rfl)) ?_
    refine ⟨Bm, bmE, [s], rfl, Ob.mk ⟨rfl, by decide, by decide, by decide, fun x hx => ⟨rfl, rfl, rfl⟩⟩ ?_⟩
    refine CallV.fresh _ _ n2 rfl (fun _ _ => rfl) (.inr (fun _ _ => rfl)) ?_
    refine CallV.to _ (r_bvalid d) rfl ?_
    refine Br.mk (fun h => absurd hd h) (fun _ => ?_)
    refine CallV.to _ (r_bvalid s) rfl ?_
    refine Br.mk (fun h => absurd hs h) (fun _ => ?_)
    refine CallV.fresh _ _ n3 rfl (fun _ _ => rfl) (.inr (fun _ _ => rfl)) ?_
    by_cases h6 : r.ok ∧ inRc r.x0 ∧ inRc r.y0
    · rw [copy_self hd h6] at n4
      refine CallV.fresh _ _ n4 rfl (fun _ _ => rfl) (.inr (fun _ _ => rfl)) ?_
      repeat (refine Br.mk (fun _ => ?_) (fun h => absurd rfl h))
      refine CallV.to _ (r_bequal ⟨d.b, L⟩ ⟨d.b, L⟩) rfl ?_
      repeat (refine Br.mk (fun _ => ?_) (fun h => absurd rfl h))
      refine CallV.to _ (r_bequal d d) rfl ?_
      repeat (refine Br.mk (fun _ => ?_) (fun h => absurd rfl h))
      repeat (refine Br.mk (fun h => absurd rfl h) (fun _ => ?_))
      refine CallV.to _ (r_bequal d d) rfl ?_
      repeat (refine Br.mk (fun _ => ?_) (fun h => absurd rfl h))
      refine CallV.to _ c_example35 rfl ?_
      exact .refl
    · rw [copy_self_bad hd h6] at n4
      refine CallV.fresh _ _ n4 rfl (fun _ _ => rfl) (.inr (fun _ _ => rfl)) ?_
      repeat (refine Br.mk (fun _ => ?_) (fun h => absurd rfl h))
      refine CallV.to _ (r_bequal ⟨d.b, L⟩ ⟨d.b, L⟩) rfl ?_
      repeat (refine Br.mk (fun _ => ?_) (fun h => absurd rfl h))
      refine CallV.to _ (r_bequal d d) rfl ?_
      repeat (first | refine Br.mk (fun _ => ?_) (fun h => absurd rfl h) | refine Br.mk (fun _ => ?_) (fun h => absurd (show ¬ (6 : Int) = 0 by decide) h))
      refine CallV.to _ c_example35 rfl ?_
      exact .refl
  · rw [show copyB d s s.b s.b.x0 s.b.y0 = (zeroB, 15) by rw [copyB, if_pos hds]] at n1
    rw [show pasteB d s = (zeroB, 15) by rw [pasteB, if_pos hds]] at n2
    refine CallV.fresh _ _ n1 rfl (fun _ _ => rfl) (.inr (fun _ _ => rfl)) ?_
    refine ⟨Bm, bmE, [s], rfl, Ob.mk ⟨rfl, by decide, by decide, by decide, fun x hx => ⟨rfl, rfl, rfl⟩⟩ ?_⟩
    refine CallV.fresh _ _ n2 rfl (fun _ _ => rfl) (.inr (fun _ _ => rfl)) ?_
    refine CallV.to _ (r_bvalid d) rfl ?_
    refine Br.mk (fun hd => ?_) (fun hd => ?_)
    · repeat (refine Br.mk (fun _ => ?_) (fun h => absurd rfl h))
      refine CallV.to _ c_example35 rfl ?_
      exact .refl
    · refine CallV.to _ (r_bvalid s) rfl ?_
      refine Br.mk (fun hs => ?_) (fun hs => absurd ⟨Decidable.not_not.1 hd, Decidable.not_not.1 hs⟩ hds)
      repeat (refine Br.mk (fun _ => ?_) (fun h => absurd rfl h))
      refine CallV.to _ c_example35 rfl ?_
      exact .refl

end Go.Gs
/- What the closed facts of a row ask of the program alone, each by itself. -/
namespace Go.Gs
open Go.Proofs Go.Proofs.YtoggmkhegbfjfaaGreat

/-- A row that says nothing. -/
def dflt : OpenClaim := { program := "", sum := "", func := "", spec := "" }
theorem j_laid : laidOutB Tryz.pinned.checked.prog = true := by kernel_rfl
theorem j_enter : Tryz.pinned.checked.prog.mayEnter = true := by kernel_rfl
theorem j_lifts : Tryz.pinned.checked.prog.liftsFinal = dflt.lifted := by kernel_rfl
theorem j_make : Tryz.pinned.checked.prog.make = some dflt.make := by kernel_rfl
theorem j_heard : Tryz.pinned.checked.prog.stopsHeard = true := by kernel_rfl
theorem j_rowed : mapsRowed Tryz.pinned.checked.prog = true := by kernel_rfl
theorem j_keys : Tryz.pinned.checked.prog.plainKeys = dflt.plainKeys := by kernel_rfl
end Go.Gs
