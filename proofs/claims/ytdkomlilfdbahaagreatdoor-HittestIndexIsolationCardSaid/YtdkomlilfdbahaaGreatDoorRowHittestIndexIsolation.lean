/- The law HittestIndexIsolation: an index does not change when the scene that it was made of is written, its results are new memory, and a nil index has no nodes. -/
import Derived.Test.YtdkomlilfdbahaaGreatDoorMA
import Derived.Test.YtdkomlilfdbahaaGreatDoorRows
import Derived.Test.YtdkomlilfdbahaaGreatDoorCards
import Derived.SevenTiedAt
import Derived.WalkKit
import Derived.ProofKit
import Derived.OpenShut
import Derived.Test.YtdkomlilfdbahaaGreatDoorMBI
import Derived.Test.YtdkomlilfdbahaaGreatDoorMBJ
import Derived.Test.YtdkomlilfdbahaaGreatDoorMBK
namespace Go.Proofs.YtdkomlilfdbahaaGreatDoor.hittestIndexIsolation
open Go.ChangeShapes Go.WideShapes Go.ChangeAt Go.RowKit
theorem own : ownKnob Tryz.prog.godebug = none := by kernel_rfl
set_option maxRecDepth 100000 in
theorem lifted (os : Os) (started : os.Started) (H : Type) (enc : TypeId × Value → H) :
    ReturnsInHanded {} Tryz.checked os 3 .any (fun w args => (Rows.hittestIndexIsolationSpec.pre enc Tryz.prog Tryz.f3 Rows.hittestIndexIsolationRow.domain false w args ∧ laidMetH Tryz.prog Gs.laidL w) ∧ sizedMet enc Tryz.prog Tryz.f3 (OpenSpec.ofChange Rows.hittestIndexIsolationSpec) false w args) (Rows.hittestIndexIsolationSpec.post enc Tryz.prog Tryz.f3 false true false false) := by
  refine returnsInHanded_of_change_and (C := Tryz.checked) (X := fun w _ => laidMetH Tryz.prog Gs.laidL w) (fun _ _ _ hh h => h.of_heap hh) own started (by kernel_rfl) Tryz.func3
    (ChangeSpec.witness_at (enc := enc) (C := Tryz.checked) (os := os) (X := fun w _ => laidMetH Tryz.prog Gs.laidL w) false (Gs.laidWorld os) #[.agg #[.int .i64 0, .int .i64 0, .int .u8 0, .int .u8 0, .int .u8 0, .int .u8 0, .slice none 0 0], .agg #[.int .i64 0, .int .i64 0], .agg #[.int .i64 0, .int .i64 0, .int .i64 0, .int .i64 0]] 8 rfl (by kernel_rfl) (by kernel_rfl) (by kernel_rfl) (by kernel_rfl) (by kernel_rfl) (Gs.laidWorld_met os _)) ?_
  intro W base args ds gs before hval0 hW hcnd _ hL _
  have hval : ∀ (j : Nat) t v, Tryz.f3.params[j]? = some t → args[j]? = some v → Value.okWide Tryz.prog W .any base t v := hval0
  have hW' := hW
  obtain ⟨p, q, hA0, hV, rfl, hfz, hnd⟩ := hW
  have hA : DataW.TrodAll enc Tryz.prog W 0 (fun _ => true) true Tryz.f3.params.toList args.toList ds p := hA0
  rw [Tryz.params3] at hA hval
  have hA1 := hA
  obtain ⟨v0, vs0, d0, ds0, p0, q0, hargs, rfl, hpe, h0, r0⟩ := trodAll_cons hA
  obtain ⟨v1, vs1, d1, ds1, p1, q1, rfl, rfl, rfl, h1, r1⟩ := trodAll_cons r0
  obtain ⟨v2, vs2, d2, ds2, p2, q2, rfl, rfl, rfl, h2, r2⟩ := trodAll_cons r1
  obtain ⟨rfl, rfl, rfl⟩ := trodAll_nil r2
  obtain rfl : args = #[v0, v1, v2] := by cases args; simp_all
  obtain ⟨rfl, rfl⟩ := trodVars_none hV
  obtain ⟨a0, w0, g0⟩ := Gs.open_scene (hval 0 26 v0 rfl rfl) h0
  obtain ⟨a1, w1, g1⟩ := Gs.open_point (hval 1 28 v1 rfl rfl) h1
  obtain ⟨a2, w2, g2⟩ := Gs.open_rcH (hval 2 30 v2 rfl rfl) h2
  clear hA0 hval0
  simp only [List.append_nil] at hW'
  refine (Gs.law_walk' (w := W) (vs := [_, _, _]) (Gs.l_hitIso a0 a1 a2) (fun S Pm hS _ => .cons (g0 S Pm _ hS) (.cons (g1 S Pm _ hS) (.cons (g2 S Pm _ hS) .nil))) (Gs.handle_of_laid hL)).mono fun e W' ⟨he, hg, hb⟩ => ?_
  subst he
  exact ⟨_, rfl, post_of_same (pa := p) (pv := []) hW' (fun _ _ _ => (trodAll_cons_mk (shut_bool Tryz.underlying4 _) trodAll_mk0)) (fun sp hsp => Gs.args_stay Gs.laidOut hb (by kernel_rfl) hA1 (fun x hx => hW'.lt x hx) hsp) (fun _ _ => rfl) (by simp)
    (hg.frame _) hg.2.1 (ok_one (by kernel_rfl) rfl (okWide_bool_mk Tryz.underlying4 _))⟩
theorem k_unfollowed : Tryz.pinned.checked.prog.unfollowed 3 = Rows.hittestIndexIsolationRow.unfollowed := by kernel_rfl
theorem k_recurses : Tryz.pinned.checked.prog.recurses 3 = Rows.hittestIndexIsolationRow.recurses := by kernel_rfl
theorem k_inPlace : Tryz.pinned.checked.prog.inPlace 3 = Rows.hittestIndexIsolationRow.inPlace := by kernel_rfl
theorem k_varsNamed : Tryz.pinned.checked.prog.varsNamed 3 = Rows.hittestIndexIsolationRow.named := by kernel_rfl
theorem closed : joinedFacts Tryz.pinned.checked.prog 3 Tryz.f3 Rows.hittestIndexIsolationSpec Rows.hittestIndexIsolationRow = true := by
  unfold joinedFacts
  rw [Gs.j_laid, Gs.j_enter, Gs.j_lifts, Gs.j_make, Gs.j_heard, Gs.j_rowed, Gs.j_keys, k_unfollowed, k_recurses, k_inPlace, k_varsNamed]
  kernel_rfl
theorem over : Rows.hittestIndexIsolationRow.holds Tryz.pinned (OpenSpec.ofChange Rows.hittestIndexIsolationSpec) :=
  OpenClaim.holds_of_wide 3 Tryz.f3 rfl rfl rfl rfl rfl rfl rfl ⟨rfl, rfl, rfl, rfl, rfl⟩ rfl rfl rfl rfl rfl (by kernel_rfl) Tryz.func3 closed
    (of_decide_eq_true (by kernel_rfl)) (by unfold Func.isWrapper; first | (rw [if_pos (by decide +kernel)]; kernel_rfl) | (rw [if_neg (by decide +kernel)]; exact ⟨rfl, rfl⟩))
    (fun os started H enc _ => lifted os started H enc)
theorem c_wf : Rows.hittestIndexIsolationRow.wfByText (OpenSpec.ofChange Rows.hittestIndexIsolationSpec) = true := by kernel_rfl
theorem c_main : Tryz.pinned.checked.prog.mainIs = some (Rows.hittestIndexIsolationCard.stood.harness.1, Rows.hittestIndexIsolationCard.stood.harness.2.toList) := by kernel_rfl
theorem c_looks : true = Tryz.pinned.checked.prog.looks [] := by kernel_rfl
theorem c_none : Tryz.pinned.checked.prog.funcs.any Func.goes = false := by kernel_rfl
theorem c_nogo (f : FuncId) : Tryz.pinned.checked.prog.goes f = false := by
  unfold Program.goes
  rw [c_none, Bool.and_false, Bool.or_false, List.any_eq_false]
  intro g _
  cases hg : Tryz.pinned.checked.prog.funcs[g]? with
  | none => simp
  | some fn => simpa using Array.any_eq_false'.1 c_none fn (Array.mem_of_getElem? hg)
theorem c_goes : false = Rows.hittestIndexIsolationRow.goesBy Tryz.pinned.checked.prog := by
  unfold OpenClaim.goesBy Program.goesAt Program.goesFrom
  cases Program.funcNamed _ _ <;> cases OpenClaim.start _ <;> simp [c_nogo]
theorem c_named : Tryz.pinned.checked.prog.funcNamed Rows.hittestIndexIsolationRow.func = some 3 := by kernel_rfl
theorem c_hrect : Tryz.pinned.checked.prog.wantsStandIn 30 = false := by kernel_rfl
theorem c_point : Tryz.pinned.checked.prog.wantsStandIn 28 = false := by kernel_rfl
theorem c_scene : Tryz.pinned.checked.prog.wantsStandIn 26 = false := by kernel_rfl
theorem row_tie : Rows.hittestIndexIsolationRow.laidByTextAt .later Tryz.pinned [.handle] true := OpenClaim.laidByTextAt_later rfl rfl Gs.j_tie Gs.j_unsafe
theorem proved : Rows.HittestIndexIsolationCardSaid :=
  Claim7.holds_tied_plain_at .later [] [.handle] true Rows.hittestIndexIsolationCard.stood.harness true over (fun _ h => by cases h) c_wf (fun _ h => by cases h) row_tie rfl ⟨rfl, rfl⟩ c_main rfl
    (fun f fn hf hfn => by
      obtain rfl : f = 3 := Option.some.inj (c_named.symm.trans hf) |>.symm
      obtain rfl : fn = Tryz.f3 := (Option.some.inj (Tryz.func3.symm.trans hfn)).symm
      refine ⟨c_looks, fun j t ht => ?_⟩
      rw [Tryz.params3] at ht
      have hm : t ∈ [26, 28, 30] := List.mem_of_getElem? (by simpa using ht)
      simp only [List.mem_cons, List.not_mem_nil, or_false] at hm
      rcases hm with rfl | rfl | rfl
      · exact c_scene
      · exact c_point
      · exact c_hrect)
    c_goes
#print axioms proved
end Go.Proofs.YtdkomlilfdbahaaGreatDoor.hittestIndexIsolation
