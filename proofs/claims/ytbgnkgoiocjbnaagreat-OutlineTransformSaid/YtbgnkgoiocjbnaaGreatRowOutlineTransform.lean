/- The law OutlineTransform: the program's map of polygons is the reference's. -/
import Derived.Test.YtbgnkgoiocjbnaaGreatMA
import Derived.Test.YtbgnkgoiocjbnaaGreatRows
import Derived.WalkKit
import Derived.ProofKit
import Derived.OpenShut
import Derived.Test.YtbgnkgoiocjbnaaGreatMBX
import Derived.Test.YtbgnkgoiocjbnaaGreatMBZ
namespace Go.Proofs.YtbgnkgoiocjbnaaGreat.outlineTransform
open Go.ChangeShapes Go.WideShapes Go.ChangeAt Go.RowKit
theorem own : ownKnob Tryz.prog.godebug = none := by kernel_rfl
set_option maxRecDepth 100000 in
theorem lifted (os : Os) (started : os.Started) (H : Type) (enc : TypeId × Value → H) :
    ReturnsInHanded {} Tryz.checked os 5 .any (Rows.outlineTransformSpec.pre6 enc Tryz.prog Tryz.f5 Rows.outlineTransformRow.domain false) (Rows.outlineTransformSpec.post enc Tryz.prog Tryz.f5 false true false false) := by
  have e : (fun w args => (Rows.outlineTransformSpec.pre enc Tryz.prog Tryz.f5 Rows.outlineTransformRow.domain false w args ∧ True) ∧ sizedMet enc Tryz.prog Tryz.f5 (OpenSpec.ofChange Rows.outlineTransformSpec) false w args) = Rows.outlineTransformSpec.pre6 enc Tryz.prog Tryz.f5 Rows.outlineTransformRow.domain false := by
    funext w args
    exact propext ⟨fun h => ⟨h.1.1, h.2⟩, fun h => ⟨⟨h.1, trivial⟩, h.2⟩⟩
  rw [← e]
  obtain ⟨w, tape, i, h1, h2, h3, h4, h5, h6⟩ := ChangeSpec.witness6 (enc := enc) (C := Tryz.checked) (os := os) (f := 5) (fn := Tryz.f5) (s := Rows.outlineTransformSpec) (conds := Rows.outlineTransformRow.domain) (apart := false) false ⟨#[], #[.slice none 0 0, .agg #[.bool false, .slice none 0 0, .bool false, .slice none 0 0, .bool false, .slice none 0 0, .bool false, .slice none 0 0, .bool false, .slice none 0 0, .bool false, .slice none 0 0, .bool false, .slice none 0 0, .bool false, .slice none 0 0, .bool false, .slice none 0 0, .bool false, .slice none 0 0, .bool false, .slice none 0 0, .bool false, .slice none 0 0]], []⟩ 8 (by kernel_rfl) (by kernel_rfl) (by kernel_rfl) (by kernel_rfl)
  refine returnsInHanded_of_change_and (C := Tryz.checked) (X := fun _ _ => True) (fun _ _ _ _ h => h) own started (by kernel_rfl) Tryz.func5 ⟨w, tape, i, h1, h2, h3, h4, ⟨⟨h5.1, trivial⟩, h5.2⟩, h6⟩ ?_
  clear h1 h2 h3 h4 h5 h6 w tape i
  intro W base args ds gs before hval0 hW hcnd hwt _ _
  have hval : ∀ (j : Nat) t v, Tryz.f5.params[j]? = some t → args[j]? = some v → Value.okWide Tryz.prog W .any base t v := hval0
  have hW' := hW
  obtain ⟨p, q, hA0, hV, rfl, hfz, hnd⟩ := hW
  have hA : DataW.TrodAll enc Tryz.prog W 0 (fun _ => true) true Tryz.f5.params.toList args.toList ds p := hA0
  rw [Tryz.params5] at hA hval
  have hA1 := hA
  obtain ⟨v0, vs0, d0, ds0, p0, q0, hargs, rfl, hpe, h0, r0⟩ := trodAll_cons hA
  obtain ⟨v1, vs1, d1, ds1, p1, q1, rfl, rfl, rfl, h1, r1⟩ := trodAll_cons r0
  obtain ⟨rfl, rfl, rfl⟩ := trodAll_nil r1
  obtain rfl : args = #[v0, v1] := by cases args; simp_all
  obtain ⟨rfl, rfl⟩ := trodVars_none hV
  obtain ⟨a0, w0, g0⟩ := Gs.open_rings (hval 0 34 v0 rfl rfl) h0
  obtain ⟨a1, g1⟩ := Gs.open_affine (hval 1 29 v1 rfl rfl) h1
  clear hA0 hval0
  rw [Tryz.params5] at hwt
  have hw0 : ∀ x ∈ d0.weights Tryz.prog 34, x ≤ reachBytes := fun x hx => of_decide_eq_true (List.all_eq_true.1 hwt x (by show x ∈ DataW.weightsEach _ (34 :: _) (d0 :: _); rw [DataW.weightsEach]; exact List.mem_append_left _ hx))
  simp only [List.append_nil] at hW'
  refine (Gs.law_walk' (w := W) (vs := [_, _]) (Gs.l_lawTransform a0 a1 (Gs.rings_short h0 (g0 (fun _ => False) (fun _ => False) (fun _ => none) (fun _ h => h)).sl_inv hw0)) fun S Pm hS _ => .cons (g0 S Pm _ hS) (.cons (g1 S Pm _ hS) .nil)).mono fun e W' ⟨he, hg, hb⟩ => ?_
  subst he
  exact ⟨_, rfl, post_of_same (pa := p) (pv := []) hW' (fun _ _ _ => (trodAll_cons_mk (shut_bool Tryz.underlying4 _) trodAll_mk0)) (fun sp hsp => Gs.args_stay Gs.laidOut hb (by kernel_rfl) hA1 (fun x hx => hW'.lt x hx) hsp) (fun _ _ => rfl) (by simp)
    (hg.frame _) hg.2.1 (ok_one (by kernel_rfl) rfl (okWide_bool_mk Tryz.underlying4 _))⟩
theorem k_unfollowed : Tryz.pinned.checked.prog.unfollowed 5 = Rows.outlineTransformRow.unfollowed := by kernel_rfl
theorem k_recurses : Tryz.pinned.checked.prog.recurses 5 = Rows.outlineTransformRow.recurses := by kernel_rfl
theorem k_inPlace : Tryz.pinned.checked.prog.inPlace 5 = Rows.outlineTransformRow.inPlace := by kernel_rfl
theorem k_varsNamed : Tryz.pinned.checked.prog.varsNamed 5 = Rows.outlineTransformRow.named := by kernel_rfl
theorem closed : joinedFacts Tryz.pinned.checked.prog 5 Tryz.f5 Rows.outlineTransformSpec Rows.outlineTransformRow = true := by
  unfold joinedFacts
  rw [Gs.j_laid, Gs.j_enter, Gs.j_lifts, Gs.j_make, Gs.j_heard, Gs.j_rowed, Gs.j_keys, k_unfollowed, k_recurses, k_inPlace, k_varsNamed]
  kernel_rfl
theorem over : Rows.outlineTransformRow.holds Tryz.pinned (OpenSpec.ofChange Rows.outlineTransformSpec) :=
  OpenClaim.holds_of_wide 5 Tryz.f5 rfl rfl rfl rfl rfl rfl rfl ⟨rfl, rfl, rfl, rfl, rfl⟩ rfl rfl rfl rfl rfl (by kernel_rfl) Tryz.func5 closed
    (of_decide_eq_true (by kernel_rfl)) (by unfold Func.isWrapper; first | (rw [if_pos (by decide +kernel)]; kernel_rfl) | (rw [if_neg (by decide +kernel)]; exact ⟨rfl, rfl⟩))
    (fun os started H enc _ => lifted os started H enc)
theorem proved : Rows.OutlineTransformSaid :=
  over
#print axioms proved
end Go.Proofs.YtbgnkgoiocjbnaaGreat.outlineTransform
