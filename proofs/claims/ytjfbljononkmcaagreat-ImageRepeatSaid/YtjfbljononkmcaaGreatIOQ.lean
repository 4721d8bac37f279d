/- Great numbers among the arguments, laid open. -/
import Derived.Test.YtjfbljononkmcaaGreatNumC
import Derived.Test.YtjfbljononkmcaaGreatOpn
import Derived.Test.YtjfbljononkmcaaGreatChecked
namespace Go.Gs
open Go.Proofs Go.ChangeShapes Go.WideShapes Go.Deep Go.Joins Go.RowKit

theorem u32_range {n : Int} (h : (Lit.int .u32 n).wf = true) : 0 ≤ n ∧ n < 4294967296 := by
  simp only [Lit.wf, Bool.and_eq_true, decide_eq_true_eq] at h
  have h1 : IntKind.u32.min = 0 := rfl
  have h2 : IntKind.u32.max = 4294967295 := rfl
  omega

section
variable {H : Type} {enc : TypeId × Value → H} {W : World} {b0 : Nat} {held : Bool}
set_option maxRecDepth 100000 in
/-- A row of digits. -/
theorem open_digs {fuel : Nat} {v : Value} {x : DataW H × List MemPlace} (hc : Cell.okWide Tryz.prog W .any b0 25 v)
    (h : DataW.trod enc Tryz.prog W 0 (fun _ => true) held fuel 25 [v] = some x) : ∃ m : List Dig, ∀ S : Nat → Prop, (∀ b, ¬ S b) → D S W (.sl dgE m) v := by
  rcases open_sl_cells (v := v) [.u32] Tryz.underlying25 (by kernel_rfl) (fun n cs y h j k hj => by
    match j, hj with
    | 0, hj =>
      cases hj
      obtain ⟨q, e, _, hw⟩ := DataW.trod_int Tryz.underlying79 h
      exact ⟨q, by rw [e]; rfl, hw⟩) h with rfl | ⟨a, len, cap, R, rfl, hlc, hcm, hR⟩
  · exact ⟨[], fun S _ => .nil _ _⟩
  · obtain ⟨b, o, sp⟩ := a
    have hcell : sp = none ∧ b < W.heap.size := by
      unfold Cell.okWide Cell.ok at hc
      rw [Tryz.underlying25] at hc
      obtain ⟨_, _, _, hsp, row, cells, hsh, _⟩ := hc
      refine ⟨hsp, ?_⟩
      unfold World.shape? at hsh
      cases hb : W.heap[b]? with
      | none => simp only [hb] at hsh; cases hsh
      | some _ => exact (Array.getElem?_eq_some_iff.1 hb).1
    obtain ⟨rfl, hb⟩ := hcell
    refine ⟨(List.range len).map fun i => dof (R i 0).toNat, fun S hS => ?_⟩
    refine d_sl_ints dgE _ [.u32] R hb (hS b) (by unfold maxLen at hcm; omega) hlc (fun i j k hi hj => by have := (hR i j k hi hj).1; rwa [addr_add] at this) (fun _ => rfl) (fun i j k hi hj => ?_)
    match j, hj with
    | 0, hj =>
      cases hj
      have := u32_range (hR i 0 .u32 hi rfl).2
      show some (u32 (dof (R i 0).toNat).val) = _
      rw [dof_val, show (((R i 0).toNat % 4294967296 : Nat) : Int) = R i 0 by omega]

set_option maxRecDepth 100000 in
/-- The cells of an integer. -/
theorem open_bi {fuel : Nat} {L : List Value} {x : DataW H × List MemPlace} (hc : ∀ v, L[1]? = some v → Cell.okWide Tryz.prog W .any b0 25 v)
    (h : DataW.trod enc Tryz.prog W 0 (fun _ => true) held fuel 27 L = some x) : ∃ a : BI, ∀ (S Pm : Nat → Prop) (ρ : Names), (∀ b, ¬ S b) → Gs S Pm ρ W (biE a) L := by
  obtain ⟨y0, y1, n, rfl, hl, h0, h1⟩ := trod_struct2 Tryz.underlying27 h
  have cb : Tryz.prog.cellsOf 4 = 1 := by kernel_rfl
  have cs : Tryz.prog.cellsOf 25 = 1 := by kernel_rfl
  have ci : Tryz.prog.cellsOf 27 = 2 := by kernel_rfl
  rw [ci] at hl
  match L, hl with
  | [v0, v1], _ =>
    have h0 : DataW.trod enc Tryz.prog W 0 (fun _ => true) held n 4 (([v0, v1].drop 0).take (Tryz.prog.cellsOf 4)) = some y0 := h0
    have h1 : DataW.trod enc Tryz.prog W 0 (fun _ => true) held n 25 (([v0, v1].drop 1).take (Tryz.prog.cellsOf 25)) = some y1 := h1
    rw [cb] at h0
    rw [cs] at h1
    obtain ⟨b, e, _⟩ := DataW.trod_bool Tryz.underlying4 h0
    obtain ⟨m, hm⟩ := open_digs (hc v1 rfl) h1
    simp at e
    subst e
    refine ⟨⟨b, m⟩, fun S Pm ρ hS => .cons ?_ (.cons (.d _ _ (hm S hS)) .nil)⟩
    have := D.pr (S := S) (w := W) (b = true) inferInstance
    rw [show decide (b = true) = b by cases b <;> rfl] at this
    exact .d _ _ this

set_option maxRecDepth 100000 in
/-- The cells of a rational. -/
theorem open_br {fuel : Nat} {L : List Value} {x : DataW H × List MemPlace} (hc1 : ∀ v, L[1]? = some v → Cell.okWide Tryz.prog W .any b0 25 v) (hc3 : ∀ v, L[3]? = some v → Cell.okWide Tryz.prog W .any b0 25 v)
    (h : DataW.trod enc Tryz.prog W 0 (fun _ => true) held fuel 29 L = some x) : ∃ a : BR, ∀ (S Pm : Nat → Prop) (ρ : Names), (∀ b, ¬ S b) → Gs S Pm ρ W (brE a) L := by
  obtain ⟨y0, y1, n, rfl, hl, h0, h1⟩ := trod_struct2 Tryz.underlying29 h
  have ci : Tryz.prog.cellsOf 27 = 2 := by kernel_rfl
  have cr : Tryz.prog.cellsOf 29 = 4 := by kernel_rfl
  rw [cr] at hl
  match L, hl with
  | [v0, v1, v2, v3], _ =>
    have h0 : DataW.trod enc Tryz.prog W 0 (fun _ => true) held n 27 (([v0, v1, v2, v3].drop 0).take (Tryz.prog.cellsOf 27)) = some y0 := h0
    have h1 : DataW.trod enc Tryz.prog W 0 (fun _ => true) held n 27 (([v0, v1, v2, v3].drop 2).take (Tryz.prog.cellsOf 27)) = some y1 := h1
    rw [ci] at h0 h1
    obtain ⟨a, ha⟩ := open_bi (L := [v0, v1]) (fun v hv => hc1 v hv) h0
    obtain ⟨b, hb⟩ := open_bi (L := [v2, v3]) (fun v hv => hc3 v hv) h1
    exact ⟨⟨a, b⟩, fun S Pm ρ hS => Gs.append (ha S Pm ρ hS) (hb S Pm ρ hS)⟩
end

end Go.Gs
