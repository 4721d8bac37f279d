/- A piece of code: what is left to be shown is enough. -/
import Derived.Test.YtjfbljononkmcaaGreatDraw
import Derived.Deep.LoopGhost
import Derived.Scope
namespace Go.Gs

/-- What is known where a piece of code ends. -/
def PostOf (E : Env) (Q : Ex → St → Prop) : Exit → Act → World → Prop
  | .normal, a, w => ∃ σ ρ, Q .normal σ ∧ Rel E σ ρ a w
  | .exit id, a, w => ∃ σ ρ, Q (.exit id) σ ∧ Rel E σ ρ a w
  | .ret, a, w => ∃ σ ρ, Q .ret σ ∧ Rel E σ ρ a w
  | _, _, _ => False

theorem code_sound {P : Program} {Γ : List (TypeId × TI)} (hT : TOK P Γ) (hm : P.follows .mixedOrders = true) {E : Env} : ∀ (c : Code) {σ : St} {Q : Ex → St → Prop} {ρ : Names} {a : Act} {w : World},
    Rel E σ ρ a w → vcCode P Γ c σ Q → c.wp P (PostOf E Q) a w
  | .skip, σ, Q, ρ, a, w, hr, h => wp_skip ⟨σ, ρ, h, hr⟩
  | .region id ops draw, σ, Q, ρ, a, w, hr, h => by
    cases draw with
    | false =>
      have h : vcOps P Γ false ops.toList ops.toList 0 σ (Q .normal) := h
      refine wp_region_list ?_
      have := ops_seq (Q := PostOf E Q) hT (fun σ ρ a w h hr => ⟨σ, ρ, h, hr⟩) hr h
      simpa using this
    | true =>
      have h : Dr (orderOK ops.toList = true) (vcOps P Γ true ops.toList ops.toList 0 σ (Q .normal)) (Ob (slotOK ops.toList = true) (vcOpsD P Γ ops.toList ops.toList 0 [] σ (Q .normal))) := h
      rcases h with ⟨h1, h2⟩ | ⟨h1, h2⟩
      · exact draw_sound hT hm hr h1 h2 fun σ ρ a w h hr => ⟨σ, ρ, h, hr⟩
      · exact draw_soundD hT hm hr h1 h2 fun σ ρ a w h hr => ⟨σ, ρ, h, hr⟩
  | .seq x y, σ, Q, ρ, a, w, hr, h => by
    refine wp_seq (Code.wp_mono (fun e a' w' hq => ?_) (code_sound hT hm x hr h))
    cases e with
    | normal => obtain ⟨σ', ρ', h', hr'⟩ := hq; exact code_sound hT hm y hr' h'
    | exit id => exact hq
    | ret => exact hq
    | _ => exact hq.elim
  | .cond c x y, σ, Q, ρ, a, w, hr, h => by
    obtain ⟨s, h, hs⟩ := ev_elim h
    have hg := hs (a := a) (fun t s _ hl => (hr.regs t s hl).2)
    split at h
    · exact wp_cond_true hg.val_inv (code_sound hT hm x hr h)
    · exact wp_cond_false hg.val_inv (code_sound hT hm y hr h)
    · rename_i p i
      by_cases hp : p
      · exact wp_cond_true (by rw [hg.pr_inv]; simp [hp]) (code_sound hT hm x hr (h.yes hp))
      · exact wp_cond_false (by rw [hg.pr_inv]; simp [hp]) (code_sound hT hm y hr (h.no hp))
    · obtain ⟨b, hb⟩ := hg.anyb_inv
      cases b with
      | true => exact wp_cond_true hb (code_sound hT hm x hr h.yes)
      | false => exact wp_cond_false hb (code_sound hT hm y hr h.no)
    · exact h.elim
  | .block id c, σ, Q, ρ, a, w, hr, h => by
    refine wp_block (Code.wp_mono (fun e a' w' hq => ?_) (code_sound hT hm c hr h))
    cases e with
    | normal => exact hq
    | exit j =>
      obtain ⟨σ', ρ', h', hr'⟩ := hq
      dsimp only at h'
      show (if j = id then PostOf E Q .normal a' w' else PostOf E Q (.exit j) a' w')
      split at h'
      · rename_i hb
        rw [if_pos (Nat.eq_of_beq_eq_true hb)]
        exact ⟨σ', ρ', h', hr'⟩
      · rename_i hb
        rw [if_neg (Nat.ne_of_beq_eq_false hb)]
        exact ⟨σ', ρ', h', hr'⟩
    | ret => exact hq
    | _ => exact hq.elim
  | .loop c, σ, Q, ρ, a, w, hr, h => by
    obtain ⟨ι, S, I, μ, x0, h0, hsub, hround⟩ := h
    obtain ⟨ρ0, hr0⟩ := hsub E ρ a w hr
    refine wp_loop_ghost (fun n a w => ∃ x ρ, I x ∧ μ x = n ∧ Rel E (S x) ρ a w) (μ x0) ⟨x0, ρ0, h0, rfl, hr0⟩ fun n a w hI => ?_
    obtain ⟨x, ρ1, h1, rfl, hr1⟩ := hI
    refine Code.wp_mono (fun e a' w' hq => ?_) (code_sound hT hm c hr1 (hround x h1))
    cases e with
    | normal =>
      obtain ⟨σ', ρ', ⟨x', h2, hs2, hlt⟩, hr'⟩ := hq
      obtain ⟨ρ2, hr2⟩ := hs2 E ρ' a' w' hr'
      exact ⟨μ x', hlt, x', ρ2, h2, rfl, hr2⟩
    | exit id => exact hq
    | ret => exact hq
    | _ => exact hq.elim
  | .exit id, σ, Q, ρ, a, w, hr, h => wp_exit ⟨σ, ρ, h, hr⟩
  | .ret, σ, Q, ρ, a, w, hr, h => wp_ret ⟨σ, ρ, h, hr⟩
  | .rangeFunc _ _ _ _, _, _, _, _, _, _, h => by cases h
  | .scope c, σ, Q, ρ, a, w, hr, h => by
    refine wp_scope_straight (Code.wp_mono (fun e a' w' hq => ?_) (code_sound hT hm c hr h))
    cases e with
    | normal => exact hq
    | exit j => exact hq
    | ret => exact hq
    | _ => exact hq.elim
  | .label _, σ, Q, ρ, a, w, hr, h => wp_label ⟨σ, ρ, h, hr⟩
  | .goto _, _, _, _, _, _, _, h => by cases h
  | .refuse _, _, _, _, _, _, _, h => by cases h

end Go.Gs
