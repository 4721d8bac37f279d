/- From a contract of a law to the walk that its row asks for. -/
import Derived.Test.YtjfbljononkmcaaGreatLemA
import Derived.RowKit3
import Derived.Below
import GoSem.Claim
namespace Go.Gs

/-- A law that, by its contract, answers true. -/
theorem law_walk {P : Program} {f : FuncId} {args : List SV} {vs : List Value} {w : World} (h : CallsG P f args [] (bl true) [])
    (hg : ∀ S Pm : Nat → Prop, (∀ b, ¬ S b) → (∀ b, ¬ Pm b) → Gs S Pm (fun _ => none) w args vs) :
    Calls P f vs.toArray w fun e w' => e = .returned (.bool true) ∧ RowKit.Grown w w' := by
  refine (h.2 (fun _ => False) (fun _ => none) w vs (fun _ h => h.elim) (memOK_nil (fun _ h => h.elim)) (fun _ _ => rfl) (hg _ _ (fun b hb => hb.elim id own_nil) (fun b => own_nil))).mono ?_
  rintro e w' ⟨v, ρ', rfl, hs, _, hv⟩
  refine ⟨by rw [hv.val_inv], ⟨hs.os, hs.output.1, fun i hi => ?_⟩, hs.output.2, hs.size⟩
  rw [hs.block i hi own_nil]
  cases w.heap[i]? with
  | none => rfl
  | some o => cases o <;> simp

/-- And nothing that was there has turned. -/
theorem law_walk' {P : Program} {f : FuncId} {args : List SV} {vs : List Value} {w : World} (h : CallsG P f args [] (bl true) [])
    (hg : ∀ S Pm : Nat → Prop, (∀ b, ¬ S b) → (∀ b, ¬ Pm b) → Gs S Pm (fun _ => none) w args vs) :
    Calls P f vs.toArray w fun e w' => e = .returned (.bool true) ∧ RowKit.Grown w w' ∧ RowKit.Below w.heap.size w w' := by
  refine (h.2 (fun _ => False) (fun _ => none) w vs (fun _ h => h.elim) (memOK_nil (fun _ h => h.elim)) (fun _ _ => rfl) (hg _ _ (fun b hb => hb.elim id own_nil) (fun b => own_nil))).mono ?_
  rintro e w' ⟨v, ρ', rfl, hs, _, hv⟩
  refine ⟨by rw [hv.val_inv], ⟨⟨hs.os, hs.output.1, fun i hi => ?_⟩, hs.output.2, hs.size⟩, ⟨hs.os, hs.tape, hs.output.1, hs.size, fun i hi => hs.block i hi own_nil⟩⟩
  rw [hs.block i hi own_nil]
  cases w.heap[i]? with
  | none => rfl
  | some o => cases o <;> simp

/-- The arguments, one by one. -/
theorem Gs.val {S Pm : Nat → Prop} {ρ : Names} {w : World} {v : Value} {cs : List SV} {vs : List Value} (h : Gs S Pm ρ w cs vs) : Gs S Pm ρ w (.val v :: cs) (v :: vs) := .cons (.d _ _ (.val v)) h

theorem r64 {n : Int} (h : (Lit.int .i64 n).wf = true) : R64 n := by
  simp only [Lit.wf, Bool.and_eq_true, decide_eq_true_eq] at h
  exact h
theorem r8 {n : Int} (h : (Lit.int .u8 n).wf = true) : R8 n := by
  simp only [Lit.wf, Bool.and_eq_true, decide_eq_true_eq] at h
  exact h

end Go.Gs
