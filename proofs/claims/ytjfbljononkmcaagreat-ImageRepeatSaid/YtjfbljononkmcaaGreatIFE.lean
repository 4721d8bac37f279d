/- A sample's place among the arguments, laid open. -/
import Derived.Test.YtjfbljononkmcaaGreatIF
import Derived.Test.YtjfbljononkmcaaGreatIOQ
namespace Go.Gs
open Go.Proofs Go.ChangeShapes Go.WideShapes Go.Deep Go.Joins Go.RowKit

section
variable {H : Type} {enc : TypeId × Value → H} {W : World} {b0 : Nat} {held : Bool}
set_option maxRecDepth 100000 in
theorem open_eye {v : Value} {d : DataW H} {p : List MemPlace} (hv : Value.okWide Tryz.prog W .any b0 31 v) (h : DataW.Trod enc Tryz.prog W 0 (fun _ => true) held 31 v d p) :
    ∃ (look md : Int) (a b : BR), R64 look ∧ R64 md ∧ ∀ (S Pm : Nat → Prop) (ρ : Names), (∀ b, ¬ S b) → G S Pm ρ W (.agg ([i64 look, i64 md] ++ (brE a ++ brE b))) v := by
  unfold Value.okWide at hv
  rw [Tryz.underlying31] at hv
  obtain ⟨cs, rfl, hsz, ts, hts, _, hcells⟩ := hv
  obtain ⟨fuel, hf⟩ := h
  have ci : Tryz.prog.cellsOf 3 = 1 := by kernel_rfl
  have ca : Tryz.prog.cellsOf 31 = 10 := by kernel_rfl
  have hts' : Tryz.prog.cellTypes Tryz.prog.depth 31 = some [3, 3, 4, 25, 4, 25, 4, 25, 4, 25] := by kernel_rfl
  rw [hts'] at hts; cases hts
  rw [ca] at hsz
  have odd : ∀ (k : Nat) (x : Value), k < 4 → cs.toList[2 * k + 3]? = some x → Cell.okWide Tryz.prog W .any b0 25 x := fun k x hk hx => by
    have hx : cs[2 * k + 3]? = some x := by rw [← hx]; simp
    obtain ⟨u, hu, hc⟩ := hcells _ x hx
    have e : k = 0 ∨ k = 1 ∨ k = 2 ∨ k = 3 := by omega
    rcases e with rfl | rfl | rfl | rfl <;> (cases hu; exact hc)
  obtain ⟨xs, n, _, _, _, hxl, hfl⟩ := DataW.trod_struct Tryz.underlying31 hf
  have hxl : xs.length = 4 := hxl
  have hL : cs.toList.length = 10 := by simpa using hsz
  have get : ∀ i, i < 4 → ∃ y, xs[i]? = some y := fun i hi => ⟨_, List.getElem?_eq_getElem (by omega)⟩
  obtain ⟨y0, e0⟩ := get 0 (by decide)
  obtain ⟨y1, e1⟩ := get 1 (by decide)
  obtain ⟨y2, e2⟩ := get 2 (by decide)
  obtain ⟨y3, e3⟩ := get 3 (by decide)
  have f0 : DataW.trod enc Tryz.prog W 0 (fun _ => true) held n 3 ((cs.toList.drop 0).take (Tryz.prog.cellsOf 3)) = some y0 := (hfl 0 _ rfl).trans e0
  have f1 : DataW.trod enc Tryz.prog W 0 (fun _ => true) held n 3 ((cs.toList.drop 1).take (Tryz.prog.cellsOf 3)) = some y1 := (hfl 1 _ rfl).trans e1
  have f2 : DataW.trod enc Tryz.prog W 0 (fun _ => true) held n 29 ((cs.toList.drop 2).take 4) = some y2 := (hfl 2 _ rfl).trans e2
  have f3 : DataW.trod enc Tryz.prog W 0 (fun _ => true) held n 29 ((cs.toList.drop 6).take 4) = some y3 := (hfl 3 _ rfl).trans e3
  rw [ci] at f0 f1
  obtain ⟨look, q0, _, w0⟩ := DataW.trod_int Tryz.underlying3 f0
  obtain ⟨md, q1, _, w1⟩ := DataW.trod_int Tryz.underlying3 f1
  have at1 : ∀ o j x, j < 4 → ((cs.toList.drop o).take 4)[j]? = some x → cs.toList[o + j]? = some x := fun o j x hj hx => by
    rw [List.getElem?_take, if_pos hj, List.getElem?_drop] at hx; exact hx
  obtain ⟨a, ha⟩ := open_br (fun v hv => odd 0 v (by decide) (at1 2 1 v (by decide) hv)) (fun v hv => odd 1 v (by decide) (at1 2 3 v (by decide) hv)) f2
  obtain ⟨b, hb⟩ := open_br (fun v hv => odd 2 v (by decide) (at1 6 1 v (by decide) hv)) (fun v hv => odd 3 v (by decide) (at1 6 3 v (by decide) hv)) f3
  refine ⟨look, md, a, b, r64 w0, r64 w1, fun S Pm ρ hS => ?_⟩
  have g := Gs.cons (S := S) (Pm := Pm) (ρ := ρ) (w := W) (.d _ _ (.val (.int .i64 look))) (.cons (.d _ _ (.val (.int .i64 md))) ((ha S Pm ρ hS).append (hb S Pm ρ hS)))
  have whole : cs.toList = .int .i64 look :: .int .i64 md :: ((cs.toList.drop 2).take 4 ++ (cs.toList.drop 6).take 4) := by
    have c0 : cs.toList = (cs.toList.drop 0).take 1 ++ cs.toList.drop 1 := (List.take_append_drop 1 cs.toList).symm
    have c1 : cs.toList.drop 1 = (cs.toList.drop 1).take 1 ++ cs.toList.drop 2 := by
      conv => lhs; rw [← List.take_append_drop 1 (cs.toList.drop 1), List.drop_drop]
    have c2 : cs.toList.drop 2 = (cs.toList.drop 2).take 4 ++ cs.toList.drop 6 := by
      conv => lhs; rw [← List.take_append_drop 4 (cs.toList.drop 2), List.drop_drop]
    have c3 : cs.toList.drop 6 = (cs.toList.drop 6).take 4 := (List.take_of_length_le (by simp; omega)).symm
    rw [q0] at c0
    rw [q1] at c1
    exact c0.trans (congrArg _ (c1.trans (congrArg _ (c2.trans (congrArg _ c3)))))
  have := G.agg (S := S) (Pm := Pm) (ρ := ρ) (w := W) _ _ g.1 g.2
  rw [← whole, Array.toArray_toList] at this
  exact this
end

end Go.Gs
