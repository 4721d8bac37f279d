/- The law OutlineInside: strokes lie within their bounds, fills within the bounds of the path. -/
import Derived.Test.YtbgnkgoiocjbnaaGreatMA
import Derived.Test.YtbgnkgoiocjbnaaGreatRows
import Derived.WalkKit
import Derived.ProofKit
import Derived.OpenShut
import Derived.Test.YtbgnkgoiocjbnaaGreatMBZ
import Derived.Test.YtbgnkgoiocjbnaaGreatMBY
namespace Go.Proofs.YtbgnkgoiocjbnaaGreat.outlineInside
open Go.ChangeShapes Go.WideShapes Go.ChangeAt Go.RowKit
theorem own : ownKnob Tryz.prog.godebug = none := by kernel_rfl
set_option maxRecDepth 100000 in
theorem lifted (os : Os) (started : os.Started) (H : Type) (enc : TypeId × Value → H) :
    ReturnsInHanded {} Tryz.checked os 9 .any (Rows.outlineInsideSpec.pre6 enc Tryz.prog Tryz.f9 Rows.outlineInsideRow.domain false) (Rows.outlineInsideSpec.post enc Tryz.prog Tryz.f9 false true false false) := by
  refine returnsInHanded_of_change (C := Tryz.checked) own started (by kernel_rfl) Tryz.func9
    (ChangeSpec.witness6 (enc := enc) (C := Tryz.checked) false ⟨#[], #[.slice none 0 0, .agg #[.int .i64 0, .int .i64 0, .int .i64 0, .int .i64 0, .slice none 0 0, .int .i64 0], .int .i64 0], []⟩ 8 (by kernel_rfl) (by kernel_rfl) (by kernel_rfl) (by kernel_rfl)) ?_
  intro W base args ds gs before hval0 hW hcnd _
  have hval : ∀ (j : Nat) t v, Tryz.f9.params[j]? = some t → args[j]? = some v → Value.okWide Tryz.prog W .any base t v := hval0
  have hW' := hW
  obtain ⟨p, q, hA0, hV, rfl, hfz, hnd⟩ := hW
  have hA : DataW.TrodAll enc Tryz.prog W 0 (fun _ => true) true Tryz.f9.params.toList args.toList ds p := hA0
  rw [Tryz.params9] at hA hval
  have hA1 := hA
  obtain ⟨v0, vs0, d0, ds0, p0, q0, hargs, rfl, hpe, h0, r0⟩ := trodAll_cons hA
  obtain ⟨v1, vs1, d1, ds1, p1, q1, rfl, rfl, rfl, h1, r1⟩ := trodAll_cons r0
  obtain ⟨v2, vs2, d2, ds2, p2, q2, rfl, rfl, rfl, h2, r2⟩ := trodAll_cons r1
  obtain ⟨rfl, rfl, rfl⟩ := trodAll_nil r2
  obtain rfl : args = #[v0, v1, v2] := by cases args; simp_all
  obtain ⟨rfl, rfl⟩ := trodVars_none hV
  obtain ⟨a0, w0, g0⟩ := Gs.open_segs (hval 0 22 v0 rfl rfl) h0
  obtain ⟨a1, w1, g1⟩ := Gs.open_pen (hval 1 42 v1 rfl rfl) h1
  obtain ⟨a2, rfl, rfl, rfl, w2⟩ := open_int Tryz.underlying3 (hval 2 3 v2 rfl rfl) h2
  clear hA0 hval0
  simp only [List.append_nil] at hW'
  refine (Gs.law_walk' (w := W) (vs := [_, _, _]) (Gs.l_lawInside a0 a1 a2) fun S Pm hS _ => .cons (g0 S Pm _ hS) (.cons (g1 S Pm _ hS) (.cons (.d _ _ (.val _)) .nil))).mono fun e W' ⟨he, hg, hb⟩ => ?_
  subst he
  exact ⟨_, rfl, post_of_same (pa := p) (pv := []) hW' (fun _ _ _ => (trodAll_cons_mk (shut_bool Tryz.underlying4 _) trodAll_mk0)) (fun sp hsp => Gs.args_stay Gs.laidOut hb (by kernel_rfl) hA1 (fun x hx => hW'.lt x hx) hsp) (fun _ _ => rfl) (by simp)
    (hg.frame _) hg.2.1 (ok_one (by kernel_rfl) rfl (okWide_bool_mk Tryz.underlying4 _))⟩
theorem k_unfollowed : Tryz.pinned.checked.prog.unfollowed 9 = Rows.outlineInsideRow.unfollowed := by kernel_rfl
theorem k_recurses : Tryz.pinned.checked.prog.recurses 9 = Rows.outlineInsideRow.recurses := by kernel_rfl
theorem k_inPlace : Tryz.pinned.checked.prog.inPlace 9 = Rows.outlineInsideRow.inPlace := by kernel_rfl
theorem k_varsNamed : Tryz.pinned.checked.prog.varsNamed 9 = Rows.outlineInsideRow.named := by kernel_rfl
theorem closed : joinedFacts Tryz.pinned.checked.prog 9 Tryz.f9 Rows.outlineInsideSpec Rows.outlineInsideRow = true := by
  unfold joinedFacts
  rw [Gs.j_laid, Gs.j_enter, Gs.j_lifts, Gs.j_make, Gs.j_heard, Gs.j_rowed, Gs.j_keys, k_unfollowed, k_recurses, k_inPlace, k_varsNamed]
  kernel_rfl
theorem over : Rows.outlineInsideRow.holds Tryz.pinned (OpenSpec.ofChange Rows.outlineInsideSpec) :=
  OpenClaim.holds_of_wide 9 Tryz.f9 rfl rfl rfl rfl rfl rfl rfl ⟨rfl, rfl, rfl, rfl, rfl⟩ rfl rfl rfl rfl rfl (by kernel_rfl) Tryz.func9 closed
    (of_decide_eq_true (by kernel_rfl)) (by unfold Func.isWrapper; first | (rw [if_pos (by decide +kernel)]; kernel_rfl) | (rw [if_neg (by decide +kernel)]; exact ⟨rfl, rfl⟩))
    (fun os started H enc _ => lifted os started H enc)
theorem proved : Rows.OutlineInsideSaid :=
  over
#print axioms proved
end Go.Proofs.YtbgnkgoiocjbnaaGreat.outlineInside
