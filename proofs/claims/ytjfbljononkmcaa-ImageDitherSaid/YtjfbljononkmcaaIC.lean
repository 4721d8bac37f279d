/- The example of the laws of pictures; the first law. -/
import Derived.Test.YtjfbljononkmcaaIB
namespace Go.Gs
open Go.Proofs

theorem c_example : CallsG Try.prog 13 [] [] (bl true) [] := by
  refine calls_to tok mix Try.func13 rfl rfl rfl ?_
  refine CallV.to _ (c_wrap (-1) 3 3 (by decide) (by decide)) rfl ?_
  refine CallV.to _ (c_wrap 4 3 3 (by decide) (by decide)) rfl ?_
  refine Br.mk (fun _ => ?_) (fun h => absurd (by decide) h)
  refine Br.mk (fun _ => ?_) (fun h => absurd (by decide) h)
  refine Br.mk (fun _ => ?_) (fun h => absurd (by decide) h)
  refine Br.mk (fun _ => ?_) (fun h => absurd (by decide) h)
  refine ⟨Pix, pixE, [⟨0, 0, 0, 5⟩], rfl, Ob.mk ⟨rfl, by decide, by decide, by decide, fun x hx => by cases hx with | head => exact ⟨rfl, rfl, rfl⟩ | tail _ h => cases h⟩ ?_⟩
  refine CallV.to _ (c_valid ⟨1, 1, [⟨0, 0, 0, 5⟩]⟩ (by decide)) rfl ?_
  exact LE_yes (by decide)

theorem c_law3 (i n m : Int) (hi : R64 i) (hn : R64 n) : CallsG Try.prog 3 [i64 i, i64 n, i64 m] [] (bl true) [] := by
  refine calls_to tok mix Try.func3 rfl rfl rfl ?_
  refine CallV.to _ (c_wrap i n m hi hn) rfl ?_
  refine CallV.to _ (c_wrap' i n m hi hn) rfl ?_
  refine Br.mk (fun _ => ?_) (fun h => absurd rfl h)
  refine Br.mk (fun _ => ?_) (fun h => absurd Iff.rfl h)
  refine CallV.to _ c_example rfl ?_
  exact .refl
end Go.Gs
