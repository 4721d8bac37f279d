/- Paints among the arguments, laid open. -/
import Derived.Test.YteofppfcpbipdaaGreatMAP
namespace Go.Gs
open Go.Proofs Go.RowKit

def shPix : Sh := .st (.cons shB (.cons shB (.cons shB (.cons shB .nil))))
def toPix (y : shPix.T) : Pix := ⟨y.1, y.2.1, y.2.2.1, y.2.2.2.1⟩
theorem pix_le (y : shPix.T) : LEds (shPix.enc y) (pixE (toPix y)) := LEds.refl
theorem pix_wf {y : shPix.T} (h : shPix.wf y) : P8 (toPix y) := ⟨wf8 h.1, wf8 h.2.1, wf8 h.2.2.1, wf8 h.2.2.2.1⟩
def shPt : Sh := .st (.cons shI (.cons shI .nil))
def toPt (y : shPt.T) : Pt := ⟨y.1, y.2.1⟩
def shStop : Sh := .st (.cons shI (.cons shPix .nil))
def toStop (y : shStop.T) : Stop := ⟨y.1, toPix y.2.1⟩
theorem stop_le (y : shStop.T) : LEds (shStop.enc y) (stopE (toStop y)) := LEds.refl
def shImg : Sh := .st (.cons shI (.cons shI (.cons (.sl shPix) .nil)))
def toImg (y : shImg.T) : Img := ⟨y.1, y.2.1, List.map toPix y.2.2.1⟩
theorem img_le (y : shImg.T) : LEds (shImg.enc y) (imgE (toImg y)) := .cons .refl (.cons .refl (.cons (LEd.sl toPix fun x _ => pix_le x) .nil))
theorem img_wf {y : shImg.T} (h : shImg.wf y) : ∀ q ∈ (toImg y).px, P8 q := fun q hq => by
  obtain ⟨x, hx, rfl⟩ := List.mem_map.1 hq
  exact pix_wf (h.2.2.1 x hx)
def shPnt : Sh := .st (.cons shI (.cons shPix (.cons shPt (.cons shPt (.cons shI (.cons (.sl shStop) (.cons shI (.cons shImg (.cons shI (.cons shAf .nil))))))))))
def toPnt (y : shPnt.T) : Pnt := ⟨y.1, toPix y.2.1, toPt y.2.2.1, toPt y.2.2.2.1, y.2.2.2.2.1, List.map toStop y.2.2.2.2.2.1, y.2.2.2.2.2.2.1, toImg y.2.2.2.2.2.2.2.1, y.2.2.2.2.2.2.2.2.1, toAF y.2.2.2.2.2.2.2.2.2.1⟩
theorem pnt_le (y : shPnt.T) (h : shPnt.wf y) : LEds (shPnt.enc y) (pntE (toPnt y)) :=
  .cons .refl (.cons .refl (.cons .refl (.cons .refl (.cons .refl (.cons .refl (.cons .refl (.cons .refl (.cons .refl (.cons .refl (.cons (LEd.sl toStop fun x _ => stop_le x) (.cons .refl
    (.cons .refl (.cons .refl (.cons (LEd.sl toPix fun x _ => pix_le x) (.cons .refl (by
    have := LEds.append (af_le _ h.2.2.2.2.2.2.2.2.2.1) .nil
    rwa [List.append_nil, List.append_nil] at this))))))))))))))))
theorem pnt_wf {y : shPnt.T} (h : shPnt.wf y) : P8p (toPnt y) := ⟨pix_wf h.2.1, fun s hs => by
    obtain ⟨x, hx, rfl⟩ := List.mem_map.1 hs
    exact pix_wf (h.2.2.2.2.2.1 x hx).2.1, img_wf h.2.2.2.2.2.2.2.1⟩

section
variable {H : Type} {enc : TypeId × Value → H} {W : World} {b0 : Nat} {held : Bool}
set_option maxRecDepth 100000 in
theorem open_paint {v : Value} {d : DataW H} {p : List MemPlace} (hv : Value.okWide Tryz.prog W .any b0 38 v) (h : DataW.Trod enc Tryz.prog W 0 (fun _ => true) held 38 v d p) :
    ∃ q : Pnt, (P8p q ∧ q.im.px.length ≤ 9223372036854775807) ∧ ∀ (S Pm : Nat → Prop) (ρ : Names), (∀ b, ¬ S b) → G S Pm ρ W (.agg (pntE q)) v := by
  obtain ⟨y, hy, g⟩ := open_argL shPnt (by kernel_rfl) (by kernel_rfl) hv h
  have g := g _ (pnt_le y hy)
  refine ⟨toPnt y, ⟨pnt_wf hy, ?_⟩, g⟩
  obtain ⟨vs, _, hvs⟩ := (g (fun _ => False) (fun _ => False) (fun _ => none) (fun _ h => h)).agg_inv
  have hl : 14 < vs.length := by rw [hvs.1]; exact (by decide : 14 < 40)
  exact (sl_val (hvs.2 14 (.sl pixE (toPnt y).im.px) _ rfl (List.getElem?_eq_getElem hl))).1
set_option maxRecDepth 100000 in
theorem open_color {v : Value} {d : DataW H} {p : List MemPlace} (hv : Value.okWide Tryz.prog W .any b0 23 v) (h : DataW.Trod enc Tryz.prog W 0 (fun _ => true) held 23 v d p) :
    ∃ c : Pix, P8 c ∧ ∀ (S Pm : Nat → Prop) (ρ : Names), (∀ b, ¬ S b) → G S Pm ρ W (.agg (pixE c)) v := by
  obtain ⟨y, hy, g⟩ := open_argL shPix (by kernel_rfl) (by kernel_rfl) hv h
  exact ⟨toPix y, pix_wf hy, g _ (pix_le y)⟩
def shQ8 : Sh := .ar (.cons (.int .i8) (.cons (.int .i8) .nil))
def toQ8 (y : shQ8.T) : Pt := ⟨y.1, y.2.1⟩
set_option maxRecDepth 100000 in
theorem open_pairs {v : Value} {d : DataW H} {p : List MemPlace} (hv : Value.okWide Tryz.prog W .any b0 53 v) (h : DataW.Trod enc Tryz.prog W 0 (fun _ => true) held 53 v d p) :
    ∃ l : List Pt, (∀ q ∈ l, (-128 ≤ q.x ∧ q.x ≤ 127) ∧ (-128 ≤ q.y ∧ q.y ≤ 127)) ∧ ∀ (S Pm : Nat → Prop) (ρ : Names), (∀ b, ¬ S b) → G S Pm ρ W (.sl q8E l) v := by
  obtain ⟨xs, hx, g⟩ := open_argS shQ8 (by kernel_rfl) hv h
  refine ⟨xs.map toQ8, fun q hq => ?_, fun S Pm ρ hS => LE_slL toQ8 (fun x _ => LEds.refl) _ _ _ _ _ (g S Pm ρ hS)⟩
  obtain ⟨x, hm, rfl⟩ := List.mem_map.1 hq
  exact ⟨wfs8 (hx x hm).1, wfs8 (hx x hm).2.1⟩
end

end Go.Gs
