/- The example of the laws of paths; the laws of bounds and of paths that may be. -/
import Derived.Test.YtlhelkkfjniioaaPG
namespace Go.Gs
open Go.Proofs

def cornerL : List Sg := [⟨1, zp, zp, zp⟩, ⟨2, ⟨2, 0⟩, zp, zp⟩, ⟨2, ⟨2, 2⟩, zp, zp⟩, closeS]
def wantL : List Sg := [⟨1, ⟨2, 2⟩, zp, zp⟩, ⟨2, ⟨2, 0⟩, zp, zp⟩, ⟨2, zp, zp, zp⟩, closeS]
def badL : List Sg := [⟨1, zp, zp, zp⟩, closeS]

theorem c_corner : CallsG Try.prog 40 [] [] (.own 0) [(0, .arr 62 sgE 7 cornerL)] := by
  refine calls_own tok mix Try.func40 rfl rfl rfl ?_
  refine ⟨Sg, sgE, cornerL, rfl, Ob.mk ⟨rfl, by decide, by decide, by decide, fun x _ => ⟨rfl, rfl, rfl⟩⟩ ?_⟩
  exact ⟨some 0, .own _ rfl, rfl, fun _ _ => rfl⟩

theorem sg_scalar (xs : List Sg) : scalarM (.arr 62 sgE 7 xs) := fun _ _ => rfl
theorem sg_flat (xs : List Sg) : flatM (.arr 62 sgE 7 xs) := fun _ _ => rfl

set_option maxRecDepth 100000 in
theorem c_example : CallsG Try.prog 13 [] [] (bl true) [] := by
  refine calls_to tok mix Try.func13 rfl rfl rfl ?_
  have hr : rev cornerL = (wantL, 0) := by decide +kernel
  have hck : check badL = (10, 1) := by decide +kernel
  have hlo : loOf cornerL = zp := by decide +kernel
  have hhi : hiOf cornerL = ⟨2, 2⟩ := by decide +kernel
  have hso : some? cornerL := by decide +kernel
  have hcn : cntV cornerL = 1 := by decide +kernel
  have cr : CallsG Try.prog 23 [.sl sgE cornerL] [] (.tup [.own 0, i64 0]) [(0, .arr 62 sgE 7 wantL)] := by
    have := c_reverse cornerL; rw [hr] at this; exact this
  have cc : CallsG Try.prog 16 [.sl sgE badL] [] (.tup [i64 10, i64 1]) [] := by
    have := c_check badL; unfold twoI at this; rw [hck] at this; exact this
  have cb : CallsG Try.prog 14 [.sl sgE cornerL] [] (.tup [.agg (ptE zp), .agg (ptE ⟨2, 2⟩), pr (some? cornerL)]) [] := by
    have := c_bounds cornerL; unfold bndR at this; rw [hlo, hhi] at this; exact this
  have cn : CallsG Try.prog 19 [.sl sgE cornerL] [] (i64 1) [] := by
    have := c_count cornerL; rw [hcn] at this; exact this
  refine CallV.fresh _ _ c_corner rfl (sg_flat _) (.inr (sg_scalar _)) ?_
  refine CallV.fresh _ _ cr rfl (sg_flat _) (.inr (sg_scalar _)) ?_
  refine ⟨Sg, sgE, wantL, rfl, Ob.mk ⟨rfl, by decide, by decide, by decide, fun x _ => ⟨rfl, rfl, rfl⟩⟩ ?_⟩
  refine ⟨Sg, sgE, badL, rfl, Ob.mk ⟨rfl, by decide, by decide, by decide, fun x _ => ⟨rfl, rfl, rfl⟩⟩ ?_⟩
  refine CallV.to _ cc rfl ?_
  refine CallV.fresh _ _ c_corner rfl (sg_flat _) (.inr (sg_scalar _)) ?_
  refine CallV.to _ cb rfl ?_
  refine Br.mk (fun _ => ?_) (fun h => absurd (by decide) h)
  refine CallV.to _ (c_equal' wantL wantL) rfl ?_
  refine Br.mk (fun _ => ?_) (fun h => absurd rfl h)
  refine Br.mk (fun _ => ?_) (fun h => absurd (by decide) h)
  refine Br.mk (fun _ => ?_) (fun h => absurd (by decide) h)
  refine Br.mk (fun _ => ?_) (fun h => absurd (by decide) h)
  refine Br.mk (fun _ => ?_) (fun h => absurd (by decide) h)
  refine Br.mk (fun _ => ?_) (fun h => absurd hso h)
  refine CallV.fresh _ _ c_corner rfl (sg_flat _) (.inr (sg_scalar _)) ?_
  refine CallV.to _ cn rfl ?_
  exact LE_yes (by decide)

theorem c_few (l : List Sg) : CallsG Try.prog 12 [.sl sgE l] [] (pr (l.length ≤ 300)) [] := by
  refine calls_to tok mix Try.func12 rfl rfl rfl ?_
  intro _
  exact LE_pr (by omega)

theorem c_lawBounds (l : List Sg) : CallsG Try.prog 3 [.sl sgE l] [] (bl true) [] := by
  refine calls_to tok mix Try.func3 rfl rfl rfl ?_
  refine CallV.to _ (c_few l) rfl ?_
  refine Br.mk (fun _ => CallV.to _ c_example rfl .refl) (fun h1 => ?_)
  have h1 := Decidable.not_not.1 h1
  refine CallV.to _ (c_bounds l) rfl ?_
  refine CallV.to _ (c_bounds' l h1) rfl ?_
  refine Br.mk (fun _ => ?_) (fun h => absurd (pt_eq.2 rfl) h)
  refine Br.mk (fun _ => ?_) (fun h => absurd (pt_eq.2 rfl) h)
  refine Br.mk (fun _ => ?_) (fun h => absurd Iff.rfl h)
  refine CallV.to _ c_example rfl ?_
  exact .refl

theorem c_lawValidity (l m : List Sg) : CallsG Try.prog 4 [.sl sgE l, .sl sgE m] [] (bl true) [] := by
  refine calls_to tok mix Try.func4 rfl rfl rfl ?_
  refine CallV.to _ (c_few l) rfl ?_
  refine Br.mk (fun _ => CallV.to _ c_example rfl .refl) (fun h1 => ?_)
  have h1 := Decidable.not_not.1 h1
  refine CallV.to _ (c_few m) rfl ?_
  refine Br.mk (fun _ => CallV.to _ c_example rfl .refl) (fun h2 => ?_)
  refine CallV.to _ (c_check l) rfl ?_
  refine CallV.to _ (c_check' l) rfl ?_
  refine Br.mk (fun _ => ?_) (fun h => absurd rfl h)
  refine Br.mk (fun _ => ?_) (fun h => absurd rfl h)
  refine CallV.to _ (c_valid l) rfl ?_
  refine Br.mk (fun _ => ?_) (fun h => absurd Iff.rfl h)
  refine CallV.to _ (c_count l) rfl ?_
  refine CallV.to _ (c_count' l h1) rfl ?_
  refine Br.mk (fun _ => ?_) (fun h => absurd rfl h)
  refine CallV.to _ (c_equal l m) rfl ?_
  refine CallV.to _ (c_equal' l m) rfl ?_
  refine Br.mk (fun _ => ?_) (fun h => absurd Iff.rfl h)
  refine CallV.to _ c_example rfl ?_
  exact .refl

end Go.Gs
