/- Transforms among the arguments, laid open. -/
import Derived.Test.YtlhelkkfjniioaaGreatPO
import Derived.Test.YtlhelkkfjniioaaGreatNumD
namespace Go.Gs
open Go.Proofs Go.ChangeShapes Go.WideShapes Go.Deep Go.Joins Go.RowKit

theorem u32_range {n : Int} (h : (Lit.int .u32 n).wf = true) : 0 ≤ n ∧ n < 4294967296 := by
  simp only [Lit.wf, Bool.and_eq_true, decide_eq_true_eq] at h
  have h1 : IntKind.u32.min = 0 := rfl
  have h2 : IntKind.u32.max = 4294967295 := rfl
  omega

section
variable {H : Type} {enc : TypeId × Value → H} {W : World} {b0 : Nat} {held : Bool}
set_option maxRecDepth 100000 in
/-- A row of digits. -/
theorem open_digs {fuel : Nat} {v : Value} {x : DataW H × List MemPlace} (hc : Cell.okWide Tryz.prog W .any b0 23 v)
    (h : DataW.trod enc Tryz.prog W 0 (fun _ => true) held fuel 23 [v] = some x) : ∃ m : List Dig, ∀ S : Nat → Prop, (∀ b, ¬ S b) → D S W (.sl dgE m) v := by
  rcases open_sl_cells (v := v) [.u32] Tryz.underlying23 (by kernel_rfl) (fun n cs y h j k hj => by
    match j, hj with
    | 0, hj =>
      cases hj
      obtain ⟨q, e, _, hw⟩ := DataW.trod_int Tryz.underlying88 h
      exact ⟨q, by rw [e]; rfl, hw⟩) h with rfl | ⟨a, len, cap, R, rfl, hlc, hcm, hR⟩
  · exact ⟨[], fun S _ => .nil _ _⟩
  · obtain ⟨b, o, sp⟩ := a
    have hcell : sp = none ∧ b < W.heap.size := by
      unfold Cell.okWide Cell.ok at hc
      rw [Tryz.underlying23] at hc
      obtain ⟨_, _, _, hsp, row, cells, hsh, _⟩ := hc
      refine ⟨hsp, ?_⟩
      unfold World.shape? at hsh
      cases hb : W.heap[b]? with
      | none => simp only [hb] at hsh; cases hsh
      | some _ => exact (Array.getElem?_eq_some_iff.1 hb).1
    obtain ⟨rfl, hb⟩ := hcell
    refine ⟨(List.range len).map fun i => dof (R i 0).toNat, fun S hS => ?_⟩
    refine d_sl_ints dgE _ [.u32] R hb (hS b) (by unfold maxLen at hcm; omega) hlc (fun i j k hi hj => by have := (hR i j k hi hj).1; rwa [addr_add] at this) (fun _ => rfl) (fun i j k hi hj => ?_)
    match j, hj with
    | 0, hj =>
      cases hj
      have := u32_range (hR i 0 .u32 hi rfl).2
      show some (u32 (dof (R i 0).toNat).val) = _
      rw [dof_val, show (((R i 0).toNat % 4294967296 : Nat) : Int) = R i 0 by omega]

set_option maxRecDepth 100000 in
/-- The cells of an integer. -/
theorem open_bi {fuel : Nat} {L : List Value} {x : DataW H × List MemPlace} (hc : ∀ v, L[1]? = some v → Cell.okWide Tryz.prog W .any b0 23 v)
    (h : DataW.trod enc Tryz.prog W 0 (fun _ => true) held fuel 25 L = some x) : ∃ a : BI, ∀ (S Pm : Nat → Prop) (ρ : Names), (∀ b, ¬ S b) → Gs S Pm ρ W (biE a) L := by
  obtain ⟨y0, y1, n, rfl, hl, h0, h1⟩ := trod_struct2 Tryz.underlying25 h
  have cb : Tryz.prog.cellsOf 4 = 1 := by kernel_rfl
  have cs : Tryz.prog.cellsOf 23 = 1 := by kernel_rfl
  have ci : Tryz.prog.cellsOf 25 = 2 := by kernel_rfl
  rw [ci] at hl
  match L, hl with
  | [v0, v1], _ =>
    have h0 : DataW.trod enc Tryz.prog W 0 (fun _ => true) held n 4 (([v0, v1].drop 0).take (Tryz.prog.cellsOf 4)) = some y0 := h0
    have h1 : DataW.trod enc Tryz.prog W 0 (fun _ => true) held n 23 (([v0, v1].drop 1).take (Tryz.prog.cellsOf 23)) = some y1 := h1
    rw [cb] at h0
    rw [cs] at h1
    obtain ⟨b, e, _⟩ := DataW.trod_bool Tryz.underlying4 h0
    obtain ⟨m, hm⟩ := open_digs (hc v1 rfl) h1
    simp at e
    subst e
    refine ⟨⟨b, m⟩, fun S Pm ρ hS => .cons ?_ (.cons (.d _ _ (hm S hS)) .nil)⟩
    have := D.pr (S := S) (w := W) (b = true) inferInstance
    rw [show decide (b = true) = b by cases b <;> rfl] at this
    exact .d _ _ this

set_option maxRecDepth 100000 in
/-- The cells of a rational. -/
theorem open_br {fuel : Nat} {L : List Value} {x : DataW H × List MemPlace} (hc1 : ∀ v, L[1]? = some v → Cell.okWide Tryz.prog W .any b0 23 v) (hc3 : ∀ v, L[3]? = some v → Cell.okWide Tryz.prog W .any b0 23 v)
    (h : DataW.trod enc Tryz.prog W 0 (fun _ => true) held fuel 27 L = some x) : ∃ a : BR, ∀ (S Pm : Nat → Prop) (ρ : Names), (∀ b, ¬ S b) → Gs S Pm ρ W (brE a) L := by
  obtain ⟨y0, y1, n, rfl, hl, h0, h1⟩ := trod_struct2 Tryz.underlying27 h
  have ci : Tryz.prog.cellsOf 25 = 2 := by kernel_rfl
  have cr : Tryz.prog.cellsOf 27 = 4 := by kernel_rfl
  rw [cr] at hl
  match L, hl with
  | [v0, v1, v2, v3], _ =>
    have h0 : DataW.trod enc Tryz.prog W 0 (fun _ => true) held n 25 (([v0, v1, v2, v3].drop 0).take (Tryz.prog.cellsOf 25)) = some y0 := h0
    have h1 : DataW.trod enc Tryz.prog W 0 (fun _ => true) held n 25 (([v0, v1, v2, v3].drop 2).take (Tryz.prog.cellsOf 25)) = some y1 := h1
    rw [ci] at h0 h1
    obtain ⟨a, ha⟩ := open_bi (L := [v0, v1]) (fun v hv => hc1 v hv) h0
    obtain ⟨b, hb⟩ := open_bi (L := [v2, v3]) (fun v hv => hc3 v hv) h1
    exact ⟨⟨a, b⟩, fun S Pm ρ hS => Gs.append (ha S Pm ρ hS) (hb S Pm ρ hS)⟩

set_option maxRecDepth 100000 in
theorem open_affine {v : Value} {d : DataW H} {p : List MemPlace} (hv : Value.okWide Tryz.prog W .any b0 29 v) (h : DataW.Trod enc Tryz.prog W 0 (fun _ => true) held 29 v d p) :
    ∃ t : AF, ∀ (S Pm : Nat → Prop) (ρ : Names), (∀ b, ¬ S b) → G S Pm ρ W (.agg (afE t)) v := by
  unfold Value.okWide at hv
  rw [Tryz.underlying29] at hv
  obtain ⟨cs, rfl, hsz, ts, hts, _, hcells⟩ := hv
  obtain ⟨fuel, hf⟩ := h
  have cr : Tryz.prog.cellsOf 27 = 4 := by kernel_rfl
  have ca : Tryz.prog.cellsOf 29 = 24 := by kernel_rfl
  have hts' : Tryz.prog.cellTypes Tryz.prog.depth 29 = some [4, 23, 4, 23, 4, 23, 4, 23, 4, 23, 4, 23, 4, 23, 4, 23, 4, 23, 4, 23, 4, 23, 4, 23] := by kernel_rfl
  rw [hts'] at hts; cases hts
  rw [ca] at hsz
  have odd : ∀ (k : Nat) (x : Value), k < 12 → cs.toList[2 * k + 1]? = some x → Cell.okWide Tryz.prog W .any b0 23 x := fun k x hk hx => by
    have hx : cs[2 * k + 1]? = some x := by rw [← hx]; simp
    obtain ⟨u, hu, hc⟩ := hcells _ x hx
    have e : k = 0 ∨ k = 1 ∨ k = 2 ∨ k = 3 ∨ k = 4 ∨ k = 5 ∨ k = 6 ∨ k = 7 ∨ k = 8 ∨ k = 9 ∨ k = 10 ∨ k = 11 := by omega
    rcases e with rfl | rfl | rfl | rfl | rfl | rfl | rfl | rfl | rfl | rfl | rfl | rfl <;> (cases hu; exact hc)
  obtain ⟨xs, n, _, _, _, hxl, hfl⟩ := DataW.trod_struct Tryz.underlying29 hf
  have hxl : xs.length = 6 := hxl
  have piece : ∀ i, i < 6 → ∃ a : BR, ∀ (S Pm : Nat → Prop) (ρ : Names), (∀ b, ¬ S b) → Gs S Pm ρ W (brE a) ((cs.toList.drop (4 * i)).take 4) := fun i hi => by
    have e : i = 0 ∨ i = 1 ∨ i = 2 ∨ i = 3 ∨ i = 4 ∨ i = 5 := by omega
    have hxi := List.getElem?_eq_getElem (show i < xs.length by omega)
    have at1 : ∀ j x, j < 4 → ((cs.toList.drop (4 * i)).take 4)[j]? = some x → cs.toList[4 * i + j]? = some x := fun j x hj hx => by
      rw [List.getElem?_take, if_pos hj, List.getElem?_drop] at hx; exact hx
    have key : DataW.trod enc Tryz.prog W 0 (fun _ => true) held n 27 ((cs.toList.drop (4 * i)).take 4) = xs[i]? := by
      rcases e with rfl | rfl | rfl | rfl | rfl | rfl
      · exact hfl 0 _ rfl
      · exact hfl 1 _ rfl
      · exact hfl 2 _ rfl
      · exact hfl 3 _ rfl
      · exact hfl 4 _ rfl
      · exact hfl 5 _ rfl
    refine open_br (fun v hv => odd (2 * i) v (by omega) ?_) (fun v hv => odd (2 * i + 1) v (by omega) ?_) (key.trans hxi)
    · rw [← at1 1 v (by decide) hv]; congr 1; omega
    · rw [← at1 3 v (by decide) hv]; congr 1; omega
  obtain ⟨a, ha⟩ := piece 0 (by decide)
  obtain ⟨b, hb⟩ := piece 1 (by decide)
  obtain ⟨c, hc⟩ := piece 2 (by decide)
  obtain ⟨d, hd⟩ := piece 3 (by decide)
  obtain ⟨e, he⟩ := piece 4 (by decide)
  obtain ⟨f, hf⟩ := piece 5 (by decide)
  refine ⟨⟨a, b, c, d, e, f⟩, fun S Pm ρ hS => ?_⟩
  have g := Gs.append (ha S Pm ρ hS) (Gs.append (hb S Pm ρ hS) (Gs.append (hc S Pm ρ hS) (Gs.append (hd S Pm ρ hS) (Gs.append (he S Pm ρ hS) (hf S Pm ρ hS)))))
  have hL : cs.toList.length = 24 := by simpa using hsz
  have cut : ∀ i, cs.toList.drop (4 * i) = (cs.toList.drop (4 * i)).take 4 ++ cs.toList.drop (4 * (i + 1)) := fun i => by
    conv => lhs; rw [← List.take_append_drop 4 (cs.toList.drop (4 * i)), List.drop_drop]
    rfl
  have whole : cs.toList = (cs.toList.drop (4 * 0)).take 4 ++ ((cs.toList.drop (4 * 1)).take 4 ++ ((cs.toList.drop (4 * 2)).take 4 ++ ((cs.toList.drop (4 * 3)).take 4 ++ ((cs.toList.drop (4 * 4)).take 4 ++ (cs.toList.drop (4 * 5)).take 4)))) := by
    have e6 : cs.toList.drop (4 * (5 + 1)) = [] := List.drop_eq_nil_of_le (by omega)
    have c5 := cut 5
    rw [e6, List.append_nil] at c5
    exact (cut 0).trans (congrArg _ ((cut 1).trans (congrArg _ ((cut 2).trans (congrArg _ ((cut 3).trans (congrArg _ ((cut 4).trans (congrArg _ c5)))))))))
  rw [← whole] at g
  have := G.agg (S := S) (Pm := Pm) (ρ := ρ) (w := W) _ cs.toList g.1 g.2
  rw [Array.toArray_toList] at this
  exact this
end

end Go.Gs
