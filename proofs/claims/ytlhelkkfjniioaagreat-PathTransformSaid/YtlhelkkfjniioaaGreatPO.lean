/- Paths among the arguments, laid open. -/
import Derived.Test.YtlhelkkfjniioaaGreatPathA
import Derived.Test.YtlhelkkfjniioaaGreatOpn
import Derived.Test.YtlhelkkfjniioaaGreatChecked
namespace Go.Gs
open Go.Proofs Go.ChangeShapes Go.WideShapes Go.Deep Go.Joins Go.RowKit

theorem laidOut : laidOutB Tryz.prog = true := by kernel_rfl

theorem cells_int : Tryz.prog.cellsOf 3 = 1 := by kernel_rfl
theorem cells_pt : Tryz.prog.cellsOf 42 = 2 := by kernel_rfl

theorem at_first {L : List Value} {a : Nat} {z : Value} (h : (L.drop a).take 1 = [z]) : L[a]? = some z := by
  have h2 : ((L.drop a).take 1)[0]? = some z := by rw [h]; rfl
  simpa [List.getElem?_take] using h2

section
variable {H : Type} {enc : TypeId × Value → H} {w : World} {base : Nat} {held : Bool} {sp : Nat → Bool}
theorem int_cell {m : Nat} {L : List Value} {z : DataW H × List MemPlace} {a : Nat} (h : DataW.trod enc Tryz.prog w base sp held m 3 ((L.drop a).take (Tryz.prog.cellsOf 3)) = some z) :
    ∃ q : Int, L[a]? = some (.int .i64 q) ∧ (Lit.int .i64 q).wf = true := by
  rw [cells_int] at h
  obtain ⟨q, e, _, hw⟩ := DataW.trod_int Tryz.underlying3 h
  exact ⟨q, at_first e, hw⟩

theorem pt_cells {m : Nat} {L : List Value} {z : DataW H × List MemPlace} (h : DataW.trod enc Tryz.prog w base sp held m 42 L = some z) :
    (∃ q : Int, L[0]? = some (.int .i64 q) ∧ (Lit.int .i64 q).wf = true) ∧ ∃ q : Int, L[1]? = some (.int .i64 q) ∧ (Lit.int .i64 q).wf = true := by
  obtain ⟨y0, y1, n, rfl, _, h0, h1⟩ := trod_struct2 Tryz.underlying42 h
  exact ⟨int_cell h0, int_cell h1⟩

theorem seg_cells {m : Nat} {L : List Value} {z : DataW H × List MemPlace} (h : DataW.trod enc Tryz.prog w base sp held m 44 L = some z) :
    ∀ j : Nat, j < 7 → ∃ q : Int, L[j]? = some (.int .i64 q) ∧ (Lit.int .i64 q).wf = true := by
  obtain ⟨xs, n, _, rfl, _, hxl, hf⟩ := DataW.trod_struct Tryz.underlying44 h
  have sub : ∀ {a c : Nat} {q : Value}, ((L.drop a).take 2)[c]? = some q → L[a + c]? = some q := fun {a c q} e => by
    rw [List.getElem?_take] at e
    split at e
    · simpa using e
    · cases e
  have get : ∀ i, i < xs.length → ∃ y, xs[i]? = some y := fun i hi => ⟨_, List.getElem?_eq_getElem hi⟩
  have hxl : xs.length = 4 := hxl
  obtain ⟨z0, e0⟩ := get 0 (by omega)
  obtain ⟨z1, e1⟩ := get 1 (by omega)
  obtain ⟨z2, e2⟩ := get 2 (by omega)
  obtain ⟨z3, e3⟩ := get 3 (by omega)
  have f0 := (hf 0 _ rfl).trans e0
  have f1 : DataW.trod enc Tryz.prog w base sp held n 42 ((L.drop 1).take (Tryz.prog.cellsOf 42)) = some z1 := (hf 1 _ rfl).trans e1
  have f2 : DataW.trod enc Tryz.prog w base sp held n 42 ((L.drop 3).take (Tryz.prog.cellsOf 42)) = some z2 := (hf 2 _ rfl).trans e2
  have f3 : DataW.trod enc Tryz.prog w base sp held n 42 ((L.drop 5).take (Tryz.prog.cellsOf 42)) = some z3 := (hf 3 _ rfl).trans e3
  rw [cells_pt] at f1 f2 f3
  have g0 := int_cell f0
  obtain ⟨⟨a1, b1, c1⟩, ⟨a2, b2, c2⟩⟩ := pt_cells f1
  obtain ⟨⟨a3, b3, c3⟩, ⟨a4, b4, c4⟩⟩ := pt_cells f2
  obtain ⟨⟨a5, b5, c5⟩, ⟨a6, b6, c6⟩⟩ := pt_cells f3
  intro j hj
  match j, hj with
  | 0, _ => exact g0
  | 1, _ => exact ⟨a1, sub b1, c1⟩
  | 2, _ => exact ⟨a2, sub b2, c2⟩
  | 3, _ => exact ⟨a3, sub b3, c3⟩
  | 4, _ => exact ⟨a4, sub b4, c4⟩
  | 5, _ => exact ⟨a5, sub b5, c5⟩
  | 6, _ => exact ⟨a6, sub b6, c6⟩
end

def R64s (s : Sg) : Prop := R64 s.v ∧ (R64 s.a.x ∧ R64 s.a.y) ∧ (R64 s.b.x ∧ R64 s.b.y) ∧ R64 s.c.x ∧ R64 s.c.y

set_option maxRecDepth 100000 in
theorem open_segs {H : Type} {enc : TypeId × Value → H} {W : World} {b0 : Nat} {held : Bool} {v : Value} {d : DataW H} {p : List MemPlace}
    (hv : Value.okWide Tryz.prog W .any b0 22 v) (h : DataW.Trod enc Tryz.prog W 0 (fun _ => true) held 22 v d p) :
    ∃ l : List Sg, (∀ s ∈ l, R64s s) ∧ ∀ (S Pm : Nat → Prop) (ρ : Names), (∀ b, ¬ S b) → G S Pm ρ W (.sl sgE l) v := by
  obtain ⟨a0, len0, cap0, rfl⟩ := okWide_slice Tryz.underlying22 hv
  obtain ⟨fuel, hf⟩ := h
  rcases open_sl_cells (v := .slice a0 len0 cap0) [.i64, .i64, .i64, .i64, .i64, .i64, .i64] Tryz.underlying22 (by kernel_rfl) (fun n cs y h j k hj => by
    have hj7 : j < 7 := (List.getElem?_eq_some_iff.1 hj).1
    obtain ⟨q, h1, h2⟩ := seg_cells h j hj7
    have hk : k = .i64 := by
      match j, hj7, hj with
      | 0, _, hj => cases hj; rfl
      | 1, _, hj => cases hj; rfl
      | 2, _, hj => cases hj; rfl
      | 3, _, hj => cases hj; rfl
      | 4, _, hj => cases hj; rfl
      | 5, _, hj => cases hj; rfl
      | 6, _, hj => cases hj; rfl
    subst hk
    exact ⟨q, h1, h2⟩) hf with e | ⟨a, len, cap, R, e, hlc, hcm, hR⟩
  · rw [e]
    exact ⟨[], fun s hs => (by cases hs), fun S Pm ρ _ => .d _ _ (.nil _ _)⟩
  · rw [e] at hv ⊢
    obtain ⟨b, o, sp⟩ := a
    have hcell : sp = none ∧ b < W.heap.size := by
      unfold Value.okWide at hv
      rw [Tryz.underlying22] at hv
      unfold Cell.okWide Cell.ok at hv
      rw [Tryz.underlying22] at hv
      obtain ⟨_, _, _, hsp, row, cells, hsh, _⟩ := hv
      refine ⟨hsp, ?_⟩
      unfold World.shape? at hsh
      cases hb : W.heap[b]? with
      | none => simp only [hb] at hsh; cases hsh
      | some _ => exact (Array.getElem?_eq_some_iff.1 hb).1
    obtain ⟨rfl, hb⟩ := hcell
    have hR' : ∀ i j, i < len → j < 7 → W.cell? ((⟨b, o, none⟩ : Addr).add (i * 7 + j)) = some (.int .i64 (R i j)) ∧ R64 (R i j) := fun i j hi hj => by
      have := hR i j .i64 hi (by
        match j, hj with
        | 0, _ => rfl
        | 1, _ => rfl
        | 2, _ => rfl
        | 3, _ => rfl
        | 4, _ => rfl
        | 5, _ => rfl
        | 6, _ => rfl)
      exact ⟨this.1, r64 this.2⟩
    refine ⟨(List.range len).map fun i => ⟨R i 0, ⟨R i 1, R i 2⟩, ⟨R i 3, R i 4⟩, ⟨R i 5, R i 6⟩⟩, fun q hq => ?_, fun S Pm ρ hS => .d _ _ ?_⟩
    · obtain ⟨i, hi, rfl⟩ := List.mem_map.1 hq
      have hi := List.mem_range.1 hi
      exact ⟨(hR' i 0 hi (by decide)).2, ⟨(hR' i 1 hi (by decide)).2, (hR' i 2 hi (by decide)).2⟩, ⟨(hR' i 3 hi (by decide)).2, (hR' i 4 hi (by decide)).2⟩, (hR' i 5 hi (by decide)).2, (hR' i 6 hi (by decide)).2⟩
    · refine d_sl_ints sgE _ [.i64, .i64, .i64, .i64, .i64, .i64, .i64] R hb (hS b) (by unfold maxLen at hcm; omega) hlc (fun i j k hi hj => ?_) (fun _ => rfl) (fun i j k hi hj => ?_)
      · have hj7 : j < 7 := (List.getElem?_eq_some_iff.1 hj).1
        have h1 := (hR i j k hi hj).1
        rwa [addr_add] at h1
      · have hj7 : j < 7 := (List.getElem?_eq_some_iff.1 hj).1
        match j, hj7, hj with
        | 0, _, hj => cases hj; rfl
        | 1, _, hj => cases hj; rfl
        | 2, _, hj => cases hj; rfl
        | 3, _, hj => cases hj; rfl
        | 4, _, hj => cases hj; rfl
        | 5, _, hj => cases hj; rfl
        | 6, _, hj => cases hj; rfl

end Go.Gs
