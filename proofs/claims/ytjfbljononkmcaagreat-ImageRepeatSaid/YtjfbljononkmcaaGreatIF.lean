/- A picture among the arguments, laid open. -/
import Derived.Test.YtjfbljononkmcaaGreatImgA
import Derived.Test.YtjfbljononkmcaaGreatOpn
import Derived.Test.YtjfbljononkmcaaGreatChecked
namespace Go.Gs
open Go.Proofs Go.ChangeShapes Go.WideShapes Go.Deep Go.Joins Go.RowKit

theorem laidOut : laidOutB Tryz.prog = true := by kernel_rfl

set_option maxRecDepth 100000 in
theorem open_img {H : Type} {enc : TypeId × Value → H} {W : World} {b0 : Nat} {held : Bool} {v : Value} {d : DataW H} {p : List MemPlace}
    (hv : Value.okWide Tryz.prog W .any b0 24 v) (h : DataW.Trod enc Tryz.prog W 0 (fun _ => true) held 24 v d p) :
    ∃ m : Img, R64 m.w ∧ R64 m.h ∧ (∀ q ∈ m.px, R8 q.r ∧ R8 q.g ∧ R8 q.b ∧ R8 q.a) ∧ ∀ (S Pm : Nat → Prop) (ρ : Names), (∀ b, ¬ S b) → G S Pm ρ W (.agg (imgE m)) v := by
  have hv2 := hv
  obtain ⟨v0, v1, v2, y0, y1, y2, n, rfl, rfl, rfl, h0, h1, h2⟩ := open_agg3 Tryz.underlying24 (by kernel_rfl) (by kernel_rfl) hv h
  obtain ⟨a0, e0, _, w0⟩ := DataW.trod_int Tryz.underlying3 h0
  obtain ⟨a1, e1, _, w1⟩ := DataW.trod_int Tryz.underlying3 h1
  simp only [List.cons.injEq, and_true] at e0 e1
  subst e0; subst e1
  have mk : ∀ (px : List Pix), (∀ q ∈ px, R8 q.r ∧ R8 q.g ∧ R8 q.b ∧ R8 q.a) → (∀ (S : Nat → Prop), (∀ b, ¬ S b) → D S W (.sl pixE px) v2) → ∃ m : Img, R64 m.w ∧ R64 m.h ∧ (∀ q ∈ m.px, R8 q.r ∧ R8 q.g ∧ R8 q.b ∧ R8 q.a) ∧
      ∀ (S Pm : Nat → Prop) (ρ : Names), (∀ b, ¬ S b) → G S Pm ρ W (.agg (imgE m)) (.agg #[.int .i64 a0, .int .i64 a1, v2]) := fun px hr hd =>
    ⟨⟨a0, a1, px⟩, r64 w0, r64 w1, hr, fun S Pm ρ hS => by
      have := Gs.cons (S := S) (Pm := Pm) (ρ := ρ) (w := W) (.d _ _ (.val (.int .i64 a0))) (.cons (.d _ _ (.val (.int .i64 a1))) (.cons (.d _ _ (hd S hS)) .nil))
      exact .agg _ [.int .i64 a0, .int .i64 a1, v2] this.1 this.2⟩
  rcases open_sl_ints (v := v2) [.u8, .u8, .u8, .u8] Tryz.underlying22 Tryz.underlying36 (by kernel_rfl) (by kernel_rfl) (fun j k hj => by
    match j, hj with
    | 0, hj => cases hj; exact ⟨_, rfl, Tryz.underlying5⟩
    | 1, hj => cases hj; exact ⟨_, rfl, Tryz.underlying5⟩
    | 2, hj => cases hj; exact ⟨_, rfl, Tryz.underlying5⟩
    | 3, hj => cases hj; exact ⟨_, rfl, Tryz.underlying5⟩) h2 with rfl | ⟨a, len, cap, R, rfl, hlc, hcm, hR⟩
  · exact mk [] (fun q hq => by cases hq) fun S _ => .nil _ _
  · obtain ⟨b, o, sp⟩ := a
    have hcell : sp = none ∧ b < W.heap.size := by
      unfold Value.okWide at hv2
      rw [Tryz.underlying24] at hv2
      obtain ⟨cs, hcs, _, ts, hts, _, hcells⟩ := hv2
      cases hcs
      have hts' : Tryz.prog.cellTypes Tryz.prog.depth 24 = some [3, 3, 22] := by kernel_rfl
      rw [hts'] at hts; cases hts
      obtain ⟨u, hu, hc⟩ := hcells 2 _ rfl
      simp at hu; subst hu
      unfold Cell.okWide Cell.ok at hc
      rw [Tryz.underlying22] at hc
      obtain ⟨_, _, _, hsp, row, cells, hsh, _⟩ := hc
      refine ⟨hsp, ?_⟩
      unfold World.shape? at hsh
      cases hb : W.heap[b]? with
      | none => simp only [hb] at hsh; cases hsh
      | some _ => exact (Array.getElem?_eq_some_iff.1 hb).1
    obtain ⟨rfl, hb⟩ := hcell
    refine mk ((List.range len).map fun i => ⟨R i 0, R i 1, R i 2, R i 3⟩) (fun q hq => ?_) (fun S hS => ?_)
    · obtain ⟨i, hi, rfl⟩ := List.mem_map.1 hq
      have hi := List.mem_range.1 hi
      exact ⟨r8 (hR i 0 _ hi rfl).2, r8 (hR i 1 _ hi rfl).2, r8 (hR i 2 _ hi rfl).2, r8 (hR i 3 _ hi rfl).2⟩
    · refine d_sl_ints pixE _ [.u8, .u8, .u8, .u8] R hb (hS b) (by unfold maxLen at hcm; omega) hlc (fun i j k hi hj => by have := (hR i j k hi hj).1; rwa [addr_add] at this) (fun _ => rfl) (fun i j k hi hj => ?_)
      match j, hj with
      | 0, hj => cases hj; rfl
      | 1, hj => cases hj; rfl
      | 2, hj => cases hj; rfl
      | 3, hj => cases hj; rfl

end Go.Gs
