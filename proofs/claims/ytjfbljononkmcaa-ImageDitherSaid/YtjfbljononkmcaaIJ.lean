/- The law of the part of a picture. -/
import Derived.Test.YtjfbljononkmcaaIH
namespace Go.Gs
open Go.Proofs

theorem pix_scalar (xs : List Pix) : scalarM (.arr 37 pixE 4 xs) := fun _ _ => rfl
theorem pix_flat (xs : List Pix) : flatM (.arr 37 pixE 4 xs) := fun _ _ => rfl

set_option maxRecDepth 100000 in
set_option maxHeartbeats 2000000 in
theorem c_law4 (m : Img) (x y w h : Int) (hx : R64 x) (hy : R64 y) (hw : R64 w) (hh : R64 h) :
    CallsG Try.prog 4 [.agg (imgE m), .agg [i64 x, i64 y, i64 w, i64 h]] [] (bl true) [] := by
  refine calls_to tok mix Try.func4 rfl rfl rfl ?_
  refine CallV.to _ (c_small m) rfl ?_
  refine Br.mk (fun _ => CallV.to _ c_example rfl .refl) (fun h1 => ?_)
  have h1 := Decidable.not_not.1 h1
  refine ⟨Pix, pixE, [], rfl, Ob.mk ⟨rfl, by decide, by decide, by decide, fun x hx => by cases hx⟩ ?_⟩
  refine ⟨_, rfl, Ob.mk ⟨(by show _ * (4 : Int) ≤ _; simp; omega), (by simp; omega), by decide, fun _ _ => rfl⟩ ?_⟩
  refine CallV.fresh _ _ (c_crop m x y w h (by omega) hx hy hw hh) rfl (pix_flat _) (.inr (pix_scalar _)) ?_
  refine CallV.fresh _ _ (c_crop' m x y w h hx hy hw hh) rfl (pix_flat _) (.inr (pix_scalar _)) ?_
  refine CallV.to _ (c_equal' (crop m x y w h).1 (crop m x y w h).1) rfl ?_
  refine Br.mk (fun k => absurd rfl k) (fun _ => ?_)
  refine Br.mk (fun k => absurd rfl k) (fun _ => ?_)
  intro hl
  generalize hcc : (crop m x y w h).1 = cc at *
  refine ⟨Nat × List Pix, fun q => ⟨[(59, i64 q.1), (58, i64 cc.px.length), (2, .loc 0 0), (5, .loc 1 0), (6, .loc 4 0)],
    [(4, .box 28 [i64 cc.w, i64 cc.h, .own 3]), (3, .arr 37 pixE 4 q.2), (2, .arr 37 pixE 4 m.px), (1, .box 28 [i64 m.w, i64 m.h, .own 2]), (0, .box 28 (imgE m))], 5, 74, 0⟩,
    fun q => q.1 ≤ cc.px.length ∧ q.2.length = cc.px.length, fun q => cc.px.length - q.1, (0, cc.px), ?_, ?_, ?_⟩
  · exact ⟨Nat.zero_le _, rfl⟩
  · exact sub_of [(0, some 0), (1, some 2), (2, some 4), (3, some 5), (4, some 6)] rfl rfl rfl ⟨rfl, rfl, rfl, rfl, rfl, trivial⟩ ⟨rfl, rfl, rfl, rfl, rfl, trivial⟩
  rintro ⟨i, xs⟩ ⟨g1, g2⟩
  have g1 : i ≤ cc.px.length := g1
  have g2 : xs.length = cc.px.length := g2
  refine Br.mk (fun g3 => ?_) (fun g3 => ?_)
  · refine Ob.mk (by omega) ?_
    refine Ob.mk (by omega) ?_
    intro p hp
    refine ⟨⟨0, 0, 0, 77⟩, rfl, ?_⟩
    refine Ar.fit (by omega) ?_
    refine ⟨(i + 1, xs.set i ⟨0, 0, 0, 77⟩), ⟨by show i + 1 ≤ _; omega, by simpa using g2⟩, sub_of [(0, some 0), (1, some 1), (2, some 2), (3, some 3), (4, some 4)] rfl rfl rfl
      ⟨rfl, rfl, rfl, rfl, rfl, trivial⟩ ⟨rfl, rfl, rfl, rfl, rfl, trivial⟩, by show _ - (i + 1) < _ - i; omega⟩
  · refine CallV.to _ (c_equal' m m) rfl ?_
    refine Br.mk (fun _ => ?_) (fun k => absurd rfl k)
    refine CallV.to _ c_example rfl ?_
    exact .refl
end Go.Gs
