/- The law of mirrored paths. -/
import Derived.Test.YtlhelkkfjniioaaPQ
namespace Go.Gs
open Go.Proofs

set_option maxRecDepth 100000 in
set_option maxHeartbeats 4000000 in
theorem walkFlip_true (l M U V : List Sg)
    (ok : CallsG Try.prog 27 [.sl sgE l, bl true] [] (.tup [.own 0, i64 0]) [(0, .arr 62 sgE 7 M)])
    (ok' : CallsG Try.prog 28 [.sl sgE l, bl true] [] (.tup [.own 0, i64 0]) [(0, .arr 62 sgE 7 M)])
    (back : CallsG Try.prog 27 [.sl sgE M, bl true] [] (.tup [.own 0, i64 0]) [(0, .arr 62 sgE 7 l)])
    (rl : CallsG Try.prog 23 [.sl sgE l] [] (.tup [.own 0, i64 0]) [(0, .arr 62 sgE 7 U)])
    (fu : CallsG Try.prog 27 [.sl sgE U, bl true] [] (.tup [.own 0, i64 0]) [(0, .arr 62 sgE 7 V)])
    (rm : CallsG Try.prog 23 [.sl sgE M] [] (.tup [.own 0, i64 0]) [(0, .arr 62 sgE 7 V)])
    (a c : Pt) (p : Prop) (hp : Decidable p)
    (bl1 : CallsG Try.prog 14 [.sl sgE l] [] (.tup [.agg (ptE a), .agg (ptE c), .pr p hp]) [])
    (bm : CallsG Try.prog 14 [.sl sgE M] [] (.tup [.agg (ptE a), .agg (ptE c), .pr p hp]) []) :
    CallsG Try.prog 7 [.sl sgE l, bl true] [] (bl true) [] := by
  refine calls_to tok mix Try.func7 rfl rfl rfl ?_
  refine CallV.to _ (c_few l) rfl ?_
  refine Br.mk (fun _ => CallV.to _ c_example rfl .refl) (fun _ => ?_)
  refine CallV.fresh _ _ ok rfl (sg_flat _) (.inr (sg_scalar _)) ?_
  refine CallV.fresh _ _ ok' rfl (sg_flat _) (.inr (sg_scalar _)) ?_
  refine CallV.to _ (c_equal' M M) rfl ?_
  refine Br.mk (fun k => absurd rfl k) (fun _ => ?_)
  refine Br.mk (fun k => absurd rfl k) (fun _ => ?_)
  refine Br.mk (fun k => absurd rfl k) (fun _ => ?_)
  refine CallV.fresh _ _ back rfl (sg_flat _) (.inr (sg_scalar _)) ?_
  refine CallV.to _ bl1 rfl ?_
  refine CallV.to _ bm rfl ?_
  refine CallV.fresh _ _ rl rfl (sg_flat _) (.inr (sg_scalar _)) ?_
  refine CallV.fresh _ _ fu rfl (sg_flat _) (.inr (sg_scalar _)) ?_
  refine CallV.fresh _ _ rm rfl (sg_flat _) (.inr (sg_scalar _)) ?_
  refine Br.mk (fun _ => ?_) (fun k => absurd rfl k)
  refine CallV.to _ (c_equal l l) rfl ?_
  refine Br.mk (fun _ => ?_) (fun k => absurd rfl k)
  refine Br.mk (fun _ => ?_) (fun k => absurd (pt_eq.2 rfl) k)
  refine Br.mk (fun _ => ?_) (fun k => absurd (pt_eq.2 rfl) k)
  refine Br.mk (fun _ => ?_) (fun k => absurd Iff.rfl k)
  refine CallV.to _ (c_equal V V) rfl ?_
  refine Br.mk (fun _ => ?_) (fun k => absurd rfl k)
  refine CallV.to _ c_example rfl ?_
  exact .refl

set_option maxRecDepth 100000 in
set_option maxHeartbeats 4000000 in
theorem walkBad_true (l : List Sg)
    (no : CallsG Try.prog 27 [.sl sgE l, bl true] [] (.tup [.own 0, i64 10]) [(0, .arr 62 sgE 7 [])])
    (no' : CallsG Try.prog 28 [.sl sgE l, bl true] [] (.tup [.own 0, i64 10]) [(0, .arr 62 sgE 7 [])]) :
    CallsG Try.prog 7 [.sl sgE l, bl true] [] (bl true) [] := by
  refine calls_to tok mix Try.func7 rfl rfl rfl ?_
  refine CallV.to _ (c_few l) rfl ?_
  refine Br.mk (fun _ => CallV.to _ c_example rfl .refl) (fun _ => ?_)
  refine CallV.fresh _ _ no rfl (sg_flat _) (.inr (sg_scalar _)) ?_
  refine CallV.fresh _ _ no' rfl (sg_flat _) (.inr (sg_scalar _)) ?_
  refine CallV.to _ (c_equal' [] []) rfl ?_
  refine Br.mk (fun k => absurd rfl k) (fun _ => ?_)
  refine Br.mk (fun k => absurd rfl k) (fun _ => ?_)
  refine Br.mk (fun _ => ?_) (fun k => absurd (by decide) k)
  refine CallV.to _ c_example rfl ?_
  exact .refl

theorem c_lawFlip_true (l : List Sg) : CallsG Try.prog 7 [.sl sgE l, bl true] [] (bl true) [] := by
  by_cases h : valid l
  · have ok : ∀ {m : List Sg}, valid m → CallsG Try.prog 27 [.sl sgE m, bl true] [] (.tup [.own 0, i64 0]) [(0, .arr 62 sgE 7 (flipL true m))] := fun {m} h => by
      have := c_flip_true m
      rw [show flp true m = (flipL true m, 0) from if_pos h] at this; exact this
    have ok' : CallsG Try.prog 28 [.sl sgE l, bl true] [] (.tup [.own 0, i64 0]) [(0, .arr 62 sgE 7 (flipL true l))] := by
      have := c_flip_true' l
      rw [show flp true l = (flipL true l, 0) from if_pos h] at this; exact this
    have hv := flipL_valid (b := true) h
    have back := ok hv
    rw [flipL_inv] at back
    have turned := ok (revL_valid h)
    rw [rev_flip true h] at turned
    obtain ⟨e1, e2⟩ := flipL_pts true l
    have lo : loOf (flipL true l) = loOf l := by unfold loOf; rw [if_pos h, if_pos hv, e1]
    have hi : hiOf (flipL true l) = hiOf l := by unfold hiOf; rw [if_pos h, if_pos hv, e2]
    have so := flipL_some (b := true) h
    have bm : CallsG Try.prog 14 [.sl sgE (flipL true l)] [] (.tup [.agg (ptE (loOf l)), .agg (ptE (hiOf l)), pr (some? l)]) [] := by
      have := c_bounds (flipL true l)
      unfold bndR at this
      rw [lo, hi] at this
      exact this.le (LE_tup (.cons .refl (.cons .refl (.cons (LE_pr so) .nil))))
    exact walkFlip_true l _ _ _ (ok h) ok' back (c_reverse_ok h) turned (c_reverse_ok hv) _ _ _ _ (c_bounds l) bm
  · have no : CallsG Try.prog 27 [.sl sgE l, bl true] [] (.tup [.own 0, i64 10]) [(0, .arr 62 sgE 7 [])] := by
      have := c_flip_true l
      rw [show flp true l = ([], 10) from if_neg h] at this; exact this
    have no' : CallsG Try.prog 28 [.sl sgE l, bl true] [] (.tup [.own 0, i64 10]) [(0, .arr 62 sgE 7 [])] := by
      have := c_flip_true' l
      rw [show flp true l = ([], 10) from if_neg h] at this; exact this
    exact walkBad_true l no no'

set_option maxRecDepth 100000 in
set_option maxHeartbeats 4000000 in
theorem walkFlip_false (l M U V : List Sg)
    (ok : CallsG Try.prog 27 [.sl sgE l, bl false] [] (.tup [.own 0, i64 0]) [(0, .arr 62 sgE 7 M)])
    (ok' : CallsG Try.prog 28 [.sl sgE l, bl false] [] (.tup [.own 0, i64 0]) [(0, .arr 62 sgE 7 M)])
    (back : CallsG Try.prog 27 [.sl sgE M, bl false] [] (.tup [.own 0, i64 0]) [(0, .arr 62 sgE 7 l)])
    (rl : CallsG Try.prog 23 [.sl sgE l] [] (.tup [.own 0, i64 0]) [(0, .arr 62 sgE 7 U)])
    (fu : CallsG Try.prog 27 [.sl sgE U, bl false] [] (.tup [.own 0, i64 0]) [(0, .arr 62 sgE 7 V)])
    (rm : CallsG Try.prog 23 [.sl sgE M] [] (.tup [.own 0, i64 0]) [(0, .arr 62 sgE 7 V)])
    (a c : Pt) (p : Prop) (hp : Decidable p)
    (bl1 : CallsG Try.prog 14 [.sl sgE l] [] (.tup [.agg (ptE a), .agg (ptE c), .pr p hp]) [])
    (bm : CallsG Try.prog 14 [.sl sgE M] [] (.tup [.agg (ptE a), .agg (ptE c), .pr p hp]) []) :
    CallsG Try.prog 7 [.sl sgE l, bl false] [] (bl true) [] := by
  refine calls_to tok mix Try.func7 rfl rfl rfl ?_
  refine CallV.to _ (c_few l) rfl ?_
  refine Br.mk (fun _ => CallV.to _ c_example rfl .refl) (fun _ => ?_)
  refine CallV.fresh _ _ ok rfl (sg_flat _) (.inr (sg_scalar _)) ?_
  refine CallV.fresh _ _ ok' rfl (sg_flat _) (.inr (sg_scalar _)) ?_
  refine CallV.to _ (c_equal' M M) rfl ?_
  refine Br.mk (fun k => absurd rfl k) (fun _ => ?_)
  refine Br.mk (fun k => absurd rfl k) (fun _ => ?_)
  refine Br.mk (fun k => absurd rfl k) (fun _ => ?_)
  refine CallV.fresh _ _ back rfl (sg_flat _) (.inr (sg_scalar _)) ?_
  refine CallV.to _ bl1 rfl ?_
  refine CallV.to _ bm rfl ?_
  refine CallV.fresh _ _ rl rfl (sg_flat _) (.inr (sg_scalar _)) ?_
  refine CallV.fresh _ _ fu rfl (sg_flat _) (.inr (sg_scalar _)) ?_
  refine CallV.fresh _ _ rm rfl (sg_flat _) (.inr (sg_scalar _)) ?_
  refine Br.mk (fun _ => ?_) (fun k => absurd rfl k)
  refine CallV.to _ (c_equal l l) rfl ?_
  refine Br.mk (fun _ => ?_) (fun k => absurd rfl k)
  refine Br.mk (fun _ => ?_) (fun k => absurd (pt_eq.2 rfl) k)
  refine Br.mk (fun _ => ?_) (fun k => absurd (pt_eq.2 rfl) k)
  refine Br.mk (fun _ => ?_) (fun k => absurd Iff.rfl k)
  refine CallV.to _ (c_equal V V) rfl ?_
  refine Br.mk (fun _ => ?_) (fun k => absurd rfl k)
  refine CallV.to _ c_example rfl ?_
  exact .refl

set_option maxRecDepth 100000 in
set_option maxHeartbeats 4000000 in
theorem walkBad_false (l : List Sg)
    (no : CallsG Try.prog 27 [.sl sgE l, bl false] [] (.tup [.own 0, i64 10]) [(0, .arr 62 sgE 7 [])])
    (no' : CallsG Try.prog 28 [.sl sgE l, bl false] [] (.tup [.own 0, i64 10]) [(0, .arr 62 sgE 7 [])]) :
    CallsG Try.prog 7 [.sl sgE l, bl false] [] (bl true) [] := by
  refine calls_to tok mix Try.func7 rfl rfl rfl ?_
  refine CallV.to _ (c_few l) rfl ?_
  refine Br.mk (fun _ => CallV.to _ c_example rfl .refl) (fun _ => ?_)
  refine CallV.fresh _ _ no rfl (sg_flat _) (.inr (sg_scalar _)) ?_
  refine CallV.fresh _ _ no' rfl (sg_flat _) (.inr (sg_scalar _)) ?_
  refine CallV.to _ (c_equal' [] []) rfl ?_
  refine Br.mk (fun k => absurd rfl k) (fun _ => ?_)
  refine Br.mk (fun k => absurd rfl k) (fun _ => ?_)
  refine Br.mk (fun _ => ?_) (fun k => absurd (by decide) k)
  refine CallV.to _ c_example rfl ?_
  exact .refl

theorem c_lawFlip_false (l : List Sg) : CallsG Try.prog 7 [.sl sgE l, bl false] [] (bl true) [] := by
  by_cases h : valid l
  · have ok : ∀ {m : List Sg}, valid m → CallsG Try.prog 27 [.sl sgE m, bl false] [] (.tup [.own 0, i64 0]) [(0, .arr 62 sgE 7 (flipL false m))] := fun {m} h => by
      have := c_flip_false m
      rw [show flp false m = (flipL false m, 0) from if_pos h] at this; exact this
    have ok' : CallsG Try.prog 28 [.sl sgE l, bl false] [] (.tup [.own 0, i64 0]) [(0, .arr 62 sgE 7 (flipL false l))] := by
      have := c_flip_false' l
      rw [show flp false l = (flipL false l, 0) from if_pos h] at this; exact this
    have hv := flipL_valid (b := false) h
    have back := ok hv
    rw [flipL_inv] at back
    have turned := ok (revL_valid h)
    rw [rev_flip false h] at turned
    obtain ⟨e1, e2⟩ := flipL_pts false l
    have lo : loOf (flipL false l) = loOf l := by unfold loOf; rw [if_pos h, if_pos hv, e1]
    have hi : hiOf (flipL false l) = hiOf l := by unfold hiOf; rw [if_pos h, if_pos hv, e2]
    have so := flipL_some (b := false) h
    have bm : CallsG Try.prog 14 [.sl sgE (flipL false l)] [] (.tup [.agg (ptE (loOf l)), .agg (ptE (hiOf l)), pr (some? l)]) [] := by
      have := c_bounds (flipL false l)
      unfold bndR at this
      rw [lo, hi] at this
      exact this.le (LE_tup (.cons .refl (.cons .refl (.cons (LE_pr so) .nil))))
    exact walkFlip_false l _ _ _ (ok h) ok' back (c_reverse_ok h) turned (c_reverse_ok hv) _ _ _ _ (c_bounds l) bm
  · have no : CallsG Try.prog 27 [.sl sgE l, bl false] [] (.tup [.own 0, i64 10]) [(0, .arr 62 sgE 7 [])] := by
      have := c_flip_false l
      rw [show flp false l = ([], 10) from if_neg h] at this; exact this
    have no' : CallsG Try.prog 28 [.sl sgE l, bl false] [] (.tup [.own 0, i64 10]) [(0, .arr 62 sgE 7 [])] := by
      have := c_flip_false' l
      rw [show flp false l = ([], 10) from if_neg h] at this; exact this
    exact walkBad_false l no no'

theorem c_lawFlip (l : List Sg) (b : Bool) : CallsG Try.prog 7 [.sl sgE l, bl b] [] (bl true) [] := by
  cases b
  · exact c_lawFlip_false l
  · exact c_lawFlip_true l
end Go.Gs
