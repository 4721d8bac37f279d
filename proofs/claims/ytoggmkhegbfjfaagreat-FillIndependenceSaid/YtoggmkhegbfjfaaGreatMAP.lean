/- Bitmaps that are made, the program's. -/
import Derived.Test.YtoggmkhegbfjfaaGreatMAO
import Derived.Test.YtoggmkhegbfjfaaGreatMAI
import Derived.Defers
import Derived.Test.YtoggmkhegbfjfaaGreatMAM
import Derived.Test.YtoggmkhegbfjfaaGreatMAL
import Derived.Test.YtoggmkhegbfjfaaGreatMAN
namespace Go.Gs
open Go.Proofs

theorem gridN_step {α : Type} {r : Rc} {g : Int → Int → α} {i j : Nat} (hj : (j : Int) < r.w) : gridN r g (i * r.w.toNat + j) ++ [g (r.x0 + j) (r.y0 + i)] = gridN r g (i * r.w.toNat + (j + 1)) := by
  rw [← Nat.add_assoc, gridN_succ]
  have h := rowcol (w := r.w) (k := i) (c := j) (by omega) hj
  have e : ((i * r.w.toNat + j : Nat) : Int) = i * r.w + j := by
    rw [Int.natCast_add, Int.natCast_mul, Int.toNat_of_nonneg (by omega)]
  rw [e, h.1, h.2]
theorem gridN_row {α : Type} {r : Rc} {g : Int → Int → α} {i : Nat} : gridN r g (i * r.w.toNat + r.w.toNat) = gridN r g ((i + 1) * r.w.toNat) := by
  rw [Nat.add_mul, Nat.one_mul]
theorem gridN_full {α : Type} {r : Rc} {g : Int → Int → α} (h : r.canon = r) : gridN r g (r.h.toNat * r.w.toNat) = grid r g := by
  unfold grid
  rw [Rc.area_canon h]
  obtain ⟨_, _, _, _, h1, _, h2, _, _⟩ := Rc.sides h
  rw [Int.toNat_mul h1 h2, Nat.mul_comm]
/-- The pixel in row 'i' and column 'j' of a rectangle. -/
theorem grid_place {r : Rc} (h : r.canon = r) {i j : Nat} (hi : (i : Int) < r.h) (hj : (j : Int) < r.w) : r.has (r.x0 + j) (r.y0 + i) ∧ ((i * r.w.toNat + j : Nat) : Int) < r.area ∧ r.idx (r.x0 + j) (r.y0 + i) = ((i * r.w.toNat + j : Nat) : Int) := by
  have e : ((i * r.w.toNat + j : Nat) : Int) = i * r.w + j := by
    rw [Int.natCast_add, Int.natCast_mul, Int.toNat_of_nonneg (by omega)]
  have h1 := idx_lt (w := r.w) (h := r.h) (k := i) (c := j) (by omega) hj (by omega) hi
  have hh : r.has (r.x0 + j) (r.y0 + i) := by
    rw [Rc.has_canon, h]
    unfold Rc.w at hj; unfold Rc.h at hi
    omega
  refine ⟨hh, ?_, ?_⟩
  · rw [e, Rc.area_canon h]; exact h1.2
  · rw [(Rc.idx_has hh).1, e, show r.y0 + i - r.y0 = (i : Int) by omega, show r.x0 + j - r.x0 = (j : Int) by omega]
theorem gOne (d : Pix) : [d].length = 1 ∧ 1 ≤ 281474976710656 ∧ 1 * 4 ≤ 16777216 ∧ 0 < 4 ∧ ∀ x ∈ [d], (pixE x).length = 4 ∧ cellsB (pixE x) = true ∧ flat.flats (pixE x) = true :=
  ⟨rfl, by decide, by decide, by decide, fun _ _ => ⟨rfl, rfl, rfl⟩⟩
theorem gApp {xs : List Pix} (d : Pix) (h : xs.length ≤ 100000) : ((xs.length + [d].length : Int) * (4 : Nat) ≤ 140737488355328 ∧ xs.length + [d].length ≤ 281474976710656 ∧ 0 < 4 ∧ ∀ x ∈ [d], (pixE x).length = 4) :=
  ⟨by simp only [List.length_singleton]; omega, by simp only [List.length_singleton]; omega, by decide, fun _ _ => rfl⟩
/-- A bitmap whose pixels are a block of one's own. -/
def bmO (b : Rc) : SV := .agg [i64 b.x0, i64 b.y0, i64 b.x1, i64 b.y1, .own 0]
/-- A bitmap, or none and an error. -/
def bmR (q : Bm × Int) : SV := .tup [bmO q.1.b, i64 q.2]
theorem bad_bm {q : Bm × Int} {e : Int} (h : q = (zeroB, e)) : Take none (.tup [.agg [i64 0, i64 0, i64 0, i64 0, .val (.slice none 0 0)], i64 e]) (bmR q) ∧ q.1.px = [] := by
  subst h
  exact ⟨take_tup (.cons (take_agg (.cons (take_int rfl) (.cons (take_int rfl) (.cons (take_int rfl) (.cons (take_int rfl) (.cons (.nil rfl) .nil)))))) (.cons (take_int rfl) .nil)), rfl⟩

theorem p_new1 (p : Pix) (x y : Int) : CallsG Tryz.prog 94 [i64 x, i64 y, .ptr (pixE p)] [] (.agg (pixE (clampP p))) [] := by
  refine calls_to tok mix Tryz.func94 rfl rfl rfl ?_
  refine CallV.to _ (p_clamp p) rfl ?_
  exact .refl

set_option maxRecDepth 100000 in
set_option maxHeartbeats 4000000 in
theorem p_made1 (r : Rc) (hA : r.area ≤ 65536) (p : Pix) :
    CallsG Tryz.prog 56 [.agg (rcE r), .fn 94 [.ptr (pixE p)]] [] (bmO r.canon) [(0, .arr 57 pixE 4 (grid r.canon (fun _ _ => clampP p)))] := by
  have pc := p_canon r
  have hc := r.canon_canon
  have eA : r.canon.area = r.area := by unfold Rc.area; rw [hc]
  rw [← eA] at hA
  clear eA
  generalize r.canon = c at *
  have hsd := Rc.sides hc
  unfold inRc at hsd
  have ew : c.w = c.x1 - c.x0 := rfl
  have eh : c.h = c.y1 - c.y0 := rfl
  obtain ⟨g, hg⟩ : ∃ g : Int → Int → Pix, g = (fun _ _ => clampP p) := ⟨_, rfl⟩
  rw [← hg]
  have hat : ∀ x y : Int, CallsG Tryz.prog 94 [i64 x, i64 y, .ptr (pixE p)] [] (.agg (pixE (g x y))) [] := fun x y => hg ▸ (p_new1 p x y)
  clear hg
  refine calls_own tok mix Tryz.func56 rfl rfl rfl ?_
  refine CallV.to _ pc rfl ?_
  refine ⟨Nat, fun i => ⟨[(6, i64 (c.y0 + (i : Int))), (1, .fn 94 [.ptr (pixE p)]), (2, .loc 0 0), (4, .loc 1 0), (5, .loc 2 0)], [(3, .arr 57 pixE 4 (gridN c (g) (i * c.w.toNat))), (2, .box 26 [i64 c.x0, i64 c.y0, i64 c.x1, i64 c.y1, .own 3]), (1, .box 26 [i64 0, i64 0, i64 0, i64 0, .val (.slice none 0 0)]), (0, .box 23 (rcE r))], 4, 41, 0⟩,
    fun i => (i : Int) ≤ c.h, fun i => (c.h - i).toNat, 0, ?_, ?_, ?_⟩
  · show (0 : Int) ≤ c.h; omega
  · exact sub_of [(0, some 0), (1, some 1), (2, some 2), (3, none)] rfl rfl rfl ⟨congrArg (fun n => some (i64 n)) (show c.y0 = c.y0 + ((0 : Nat) : Int) by omega), rfl, rfl, rfl, rfl, trivial⟩ ⟨by rw [Nat.zero_mul]; rfl, rfl, rfl, rfl, trivial⟩
  rintro i hi
  have hi : (i : Int) ≤ c.h := hi
  refine Br.mk (fun g9 => ?_) (fun g9 => ?_)
  · have g9 : (i : Int) < c.h := by omega
    refine ⟨Nat, fun j => ⟨[(7, i64 (c.x0 + (j : Int))), (6, i64 (c.y0 + (i : Int))), (1, .fn 94 [.ptr (pixE p)]), (2, .loc 0 0), (4, .loc 1 0), (5, .loc 2 0)], [(3, .arr 57 pixE 4 (gridN c (g) (i * c.w.toNat + j))), (2, .box 26 [i64 c.x0, i64 c.y0, i64 c.x1, i64 c.y1, .own 3]), (1, .box 26 [i64 0, i64 0, i64 0, i64 0, .val (.slice none 0 0)]), (0, .box 23 (rcE r))], 4, 41, 0⟩,
      fun j => (j : Int) ≤ c.w, fun j => (c.w - j).toNat, 0, ?_, ?_, ?_⟩
    · show (0 : Int) ≤ c.w; omega
    · exact sub_of [(0, some 0), (1, some 1), (2, some 2), (3, some 3)] rfl rfl rfl ⟨congrArg (fun n => some (i64 n)) (show c.x0 = c.x0 + ((0 : Nat) : Int) by omega), rfl, rfl, rfl, rfl, rfl, trivial⟩ ⟨rfl, rfl, rfl, rfl, trivial⟩
    rintro j hj
    have hj : (j : Int) ≤ c.w := hj
    refine Br.mk (fun k1 => ?_) (fun k1 => ?_)
    · have k1 : (j : Int) < c.w := by omega
      have hp := grid_place hc g9 k1
      have hij := hp.2.1
      refine Dr.mk (by decide +kernel) ?_
      refine CallV.to _ (hat (c.x0 + j) (c.y0 + i)) rfl ?_
      refine ⟨Pix, pixE, [g (c.x0 + j) (c.y0 + i)], rfl, Ob.mk (gOne _) ?_⟩
      refine ⟨_, rfl, Ob.mk (gApp _ (by rw [gridN_len]; omega)) ?_⟩
      refine Ar.fit (by omega) ?_
      refine ⟨j + 1, (by show ((j + 1 : Nat) : Int) ≤ c.w; omega), sub_of [(0, some 0), (1, some 1), (2, some 2), (3, some 5)] rfl rfl rfl
        ⟨congrArg (fun n => some (i64 n)) (show c.x0 + j + 1 = c.x0 + ((j + 1 : Nat) : Int) by omega), rfl, rfl, rfl, rfl, rfl, trivial⟩
        ⟨congrArg (fun l => some (Mem.arr 57 pixE 4 l)) (gridN_step k1), rfl, rfl, rfl, trivial⟩, (by dsimp only; omega)⟩
    · have hjw : j = c.w.toNat := by omega
      refine Ar.fit (by omega) ?_
      refine ⟨i + 1, (by show ((i + 1 : Nat) : Int) ≤ c.h; omega), sub_of [(0, some 0), (1, some 1), (2, some 2), (3, some 3)] rfl rfl rfl
        ⟨congrArg (fun n => some (i64 n)) (show c.y0 + i + 1 = c.y0 + ((i + 1 : Nat) : Int) by omega), rfl, rfl, rfl, rfl, trivial⟩
        ⟨congrArg (fun l => some (Mem.arr 57 pixE 4 l)) (by rw [hjw, gridN_row]), rfl, rfl, rfl, trivial⟩, (by dsimp only; omega)⟩
  · have hih : i = c.h.toNat := by omega
    exact ⟨some 3, take_agg (.cons (take_int rfl) (.cons (take_int rfl) (.cons (take_int rfl) (.cons (take_int rfl) (.cons (.own _ rfl) .nil))))), by rw [hih, ← gridN_full hc]; rfl, fun _ _ => rfl⟩

set_option maxRecDepth 100000 in
theorem p_over1 (mode : Int) (s d : Bm) (m : Mk) (hs : s.ok) (hd : d.ok) (hm : m.ok) (s8 : B8 s) (d8 : B8 d) (m8 : ∀ c ∈ m.cv, R8 c) (x y : Int) :
    CallsG Tryz.prog 57 [i64 x, i64 y, .ptr [i64 mode], .ptr (bmE s), .ptr (bmE d), .ptr (mkE m)] [] (.agg (pixE (coverP mode (s.at_ x y) (d.at_ x y) (m.at_ x y)))) [] := by
  refine calls_to tok mix Tryz.func57 rfl rfl rfl ?_
  refine Dr.mk (by decide +kernel) ?_
  refine CallV.to _ (p_bat s hs x y) rfl ?_
  refine CallV.to _ (p_bat d hd x y) rfl ?_
  refine CallV.to _ (p_level m hm x y) rfl ?_
  refine CallV.to _ (p_cover mode (s.at_ x y) (d.at_ x y) (m.at_ x y) (Bm.at_8 s8 x y) (Bm.at_8 d8 x y) (Mk.at_8 m8 x y)) rfl ?_
  exact .refl

set_option maxRecDepth 100000 in
set_option maxHeartbeats 4000000 in
theorem p_made2 (r : Rc) (hA : r.area ≤ 65536) (mode : Int) (s d : Bm) (m : Mk) (hs : s.ok) (hd : d.ok) (hm : m.ok) (s8 : B8 s) (d8 : B8 d) (m8 : ∀ c ∈ m.cv, R8 c) :
    CallsG Tryz.prog 56 [.agg (rcE r), .fn 57 [.ptr [i64 mode], .ptr (bmE s), .ptr (bmE d), .ptr (mkE m)]] [] (bmO r.canon) [(0, .arr 57 pixE 4 (grid r.canon (fun x y => coverP mode (s.at_ x y) (d.at_ x y) (m.at_ x y))))] := by
  have pc := p_canon r
  have hc := r.canon_canon
  have eA : r.canon.area = r.area := by unfold Rc.area; rw [hc]
  rw [← eA] at hA
  clear eA
  generalize r.canon = c at *
  have hsd := Rc.sides hc
  unfold inRc at hsd
  have ew : c.w = c.x1 - c.x0 := rfl
  have eh : c.h = c.y1 - c.y0 := rfl
  obtain ⟨g, hg⟩ : ∃ g : Int → Int → Pix, g = (fun x y => coverP mode (s.at_ x y) (d.at_ x y) (m.at_ x y)) := ⟨_, rfl⟩
  rw [← hg]
  have hat : ∀ x y : Int, CallsG Tryz.prog 57 [i64 x, i64 y, .ptr [i64 mode], .ptr (bmE s), .ptr (bmE d), .ptr (mkE m)] [] (.agg (pixE (g x y))) [] := fun x y => hg ▸ (p_over1 mode s d m hs hd hm s8 d8 m8 x y)
  clear hg
  refine calls_own tok mix Tryz.func56 rfl rfl rfl ?_
  refine CallV.to _ pc rfl ?_
  refine ⟨Nat, fun i => ⟨[(6, i64 (c.y0 + (i : Int))), (1, .fn 57 [.ptr [i64 mode], .ptr (bmE s), .ptr (bmE d), .ptr (mkE m)]), (2, .loc 0 0), (4, .loc 1 0), (5, .loc 2 0)], [(3, .arr 57 pixE 4 (gridN c (g) (i * c.w.toNat))), (2, .box 26 [i64 c.x0, i64 c.y0, i64 c.x1, i64 c.y1, .own 3]), (1, .box 26 [i64 0, i64 0, i64 0, i64 0, .val (.slice none 0 0)]), (0, .box 23 (rcE r))], 4, 41, 0⟩,
    fun i => (i : Int) ≤ c.h, fun i => (c.h - i).toNat, 0, ?_, ?_, ?_⟩
  · show (0 : Int) ≤ c.h; omega
  · exact sub_of [(0, some 0), (1, some 1), (2, some 2), (3, none)] rfl rfl rfl ⟨congrArg (fun n => some (i64 n)) (show c.y0 = c.y0 + ((0 : Nat) : Int) by omega), rfl, rfl, rfl, rfl, trivial⟩ ⟨by rw [Nat.zero_mul]; rfl, rfl, rfl, rfl, trivial⟩
  rintro i hi
  have hi : (i : Int) ≤ c.h := hi
  refine Br.mk (fun g9 => ?_) (fun g9 => ?_)
  · have g9 : (i : Int) < c.h := by omega
    refine ⟨Nat, fun j => ⟨[(7, i64 (c.x0 + (j : Int))), (6, i64 (c.y0 + (i : Int))), (1, .fn 57 [.ptr [i64 mode], .ptr (bmE s), .ptr (bmE d), .ptr (mkE m)]), (2, .loc 0 0), (4, .loc 1 0), (5, .loc 2 0)], [(3, .arr 57 pixE 4 (gridN c (g) (i * c.w.toNat + j))), (2, .box 26 [i64 c.x0, i64 c.y0, i64 c.x1, i64 c.y1, .own 3]), (1, .box 26 [i64 0, i64 0, i64 0, i64 0, .val (.slice none 0 0)]), (0, .box 23 (rcE r))], 4, 41, 0⟩,
      fun j => (j : Int) ≤ c.w, fun j => (c.w - j).toNat, 0, ?_, ?_, ?_⟩
    · show (0 : Int) ≤ c.w; omega
    · exact sub_of [(0, some 0), (1, some 1), (2, some 2), (3, some 3)] rfl rfl rfl ⟨congrArg (fun n => some (i64 n)) (show c.x0 = c.x0 + ((0 : Nat) : Int) by omega), rfl, rfl, rfl, rfl, rfl, trivial⟩ ⟨rfl, rfl, rfl, rfl, trivial⟩
    rintro j hj
    have hj : (j : Int) ≤ c.w := hj
    refine Br.mk (fun k1 => ?_) (fun k1 => ?_)
    · have k1 : (j : Int) < c.w := by omega
      have hp := grid_place hc g9 k1
      have hij := hp.2.1
      refine Dr.mk (by decide +kernel) ?_
      refine CallV.to _ (hat (c.x0 + j) (c.y0 + i)) rfl ?_
      refine ⟨Pix, pixE, [g (c.x0 + j) (c.y0 + i)], rfl, Ob.mk (gOne _) ?_⟩
      refine ⟨_, rfl, Ob.mk (gApp _ (by rw [gridN_len]; omega)) ?_⟩
      refine Ar.fit (by omega) ?_
      refine ⟨j + 1, (by show ((j + 1 : Nat) : Int) ≤ c.w; omega), sub_of [(0, some 0), (1, some 1), (2, some 2), (3, some 5)] rfl rfl rfl
        ⟨congrArg (fun n => some (i64 n)) (show c.x0 + j + 1 = c.x0 + ((j + 1 : Nat) : Int) by omega), rfl, rfl, rfl, rfl, rfl, trivial⟩
        ⟨congrArg (fun l => some (Mem.arr 57 pixE 4 l)) (gridN_step k1), rfl, rfl, rfl, trivial⟩, (by dsimp only; omega)⟩
    · have hjw : j = c.w.toNat := by omega
      refine Ar.fit (by omega) ?_
      refine ⟨i + 1, (by show ((i + 1 : Nat) : Int) ≤ c.h; omega), sub_of [(0, some 0), (1, some 1), (2, some 2), (3, some 3)] rfl rfl rfl
        ⟨congrArg (fun n => some (i64 n)) (show c.y0 + i + 1 = c.y0 + ((i + 1 : Nat) : Int) by omega), rfl, rfl, rfl, rfl, trivial⟩
        ⟨congrArg (fun l => some (Mem.arr 57 pixE 4 l)) (by rw [hjw, gridN_row]), rfl, rfl, rfl, trivial⟩, (by dsimp only; omega)⟩
  · have hih : i = c.h.toNat := by omega
    exact ⟨some 3, take_agg (.cons (take_int rfl) (.cons (take_int rfl) (.cons (take_int rfl) (.cons (take_int rfl) (.cons (.own _ rfl) .nil))))), by rw [hih, ← gridN_full hc]; rfl, fun _ _ => rfl⟩

/-- New. -/
def newBm (r : Rc) (p : Pix) : Bm × Int := if ¬ r.ok then (zeroB, 6) else if 65536 < r.area then (zeroB, 5) else (⟨r.canon, grid r.canon fun _ _ => clampP p⟩, 0)
set_option maxRecDepth 100000 in
theorem p_new (r : Rc) (p : Pix) : CallsG Tryz.prog 52 [.agg (rcE r), .agg (pixE p)] [] (bmR (newBm r p)) [(0, .arr 57 pixE 4 (newBm r p).1.px)] := by
  generalize hq : newBm r p = q
  refine calls_own tok mix Tryz.func52 rfl rfl rfl ?_
  refine CallV.to _ (p_valid r) rfl ?_
  refine Br.mk (fun h1 => ⟨none, bad_bm (q := q) (e := 6) (by rw [← hq, newBm, if_pos h1])⟩) (fun h1 => ?_)
  refine CallV.to _ (p_area r) rfl ?_
  refine Br.mk (fun h2 => ⟨none, bad_bm (q := q) (e := 5) (by rw [← hq, newBm, if_neg h1, if_pos h2])⟩) (fun h2 => ?_)
  have hA : r.area ≤ 65536 := by omega
  have e : q = (⟨r.canon, grid r.canon fun _ _ => clampP p⟩, 0) := by rw [← hq, newBm, if_neg h1, if_neg h2]
  clear hq
  subst e
  refine CallV.fresh _ _ (p_made1 r hA p) rfl (fun _ _ => rfl) (.inr (fun _ _ => rfl)) ?_
  exact ⟨some 3, take_tup (.cons (take_agg (.cons (take_int rfl) (.cons (take_int rfl) (.cons (take_int rfl) (.cons (take_int rfl) (.cons (.own _ rfl) .nil)))))) (.cons (take_int rfl) .nil)), rfl, fun _ _ => rfl⟩

theorem p_all1 (s : Bm) : CallsG Tryz.prog 98 [.agg (bmE s)] [] (pr (¬ s.ok)) [] := by
  refine calls_to tok mix Tryz.func98 rfl rfl rfl ?_
  refine CallV.to _ (p_bvalid s) rfl ?_
  exact LE_pr Iff.rfl
def badBm (xs : List Bm) : Int := match xs.findIdx? (fun p => decide (¬ p.ok)) with
  | some i => i
  | none => -1
theorem badBm_at {xs : List Bm} {i : Nat} {p : Bm} (h : ∀ (j : Nat) q, j < i → xs[j]? = some q → q.ok) (hi : xs[i]? = some p) (hp : ¬ p.ok) : badBm xs = i := by
  have : xs.findIdx? (fun p => decide (¬ p.ok)) = some i := by
    rw [List.findIdx?_eq_some_iff_getElem]
    obtain ⟨hl, he⟩ := List.getElem?_eq_some_iff.1 hi
    refine ⟨hl, by simp [he, hp], fun j hj => ?_⟩
    have := h j xs[j] hj (List.getElem?_eq_getElem _)
    simp [this]
  simp only [badBm, this]
theorem badBm_none {xs : List Bm} (h : ∀ p ∈ xs, p.ok) : badBm xs = -1 := by
  have : xs.findIdx? (fun p => decide (¬ p.ok)) = none := by
    rw [List.findIdx?_eq_none_iff]
    intro p hp
    simp [h p hp]
  simp only [badBm, this]
theorem badBm_nonneg {xs : List Bm} : 0 ≤ badBm xs ↔ ¬ ∀ p ∈ xs, p.ok := by
  constructor
  · intro h hall
    rw [badBm_none hall] at h; omega
  · intro h
    unfold badBm
    split
    · omega
    · rename_i hn
      rw [List.findIdx?_eq_none_iff] at hn
      exact absurd (fun p hp => by simpa using hn p hp) h
theorem p_aindex (xs : List Bm) (hl : xs.length ≤ 9223372036854775807) : CallsG Tryz.prog 156 [.sl bmE xs, .fn 98 []] [] (i64 (badBm xs)) [] := by
  refine calls_to tok mix Tryz.func156 rfl rfl rfl ?_
  intro hl0
  refine ⟨Int, fun i => ⟨[(8, i64 i), (7, i64 xs.length), (0, .sl bmE xs), (1, .fn 98 [])], [], 0, 19, 0⟩, fun i => 0 ≤ i ∧ i ≤ xs.length ∧ ∀ (j : Nat) q, (j : Int) < i → xs[j]? = some q → q.ok, fun i => ((xs.length : Int) - i).toNat, 0, ?_, ?_, ?_⟩
  · exact ⟨by omega, by omega, fun j q hj => by omega⟩
  · exact sub_of [] rfl rfl rfl ⟨rfl, rfl, rfl, rfl, trivial⟩ trivial
  rintro i ⟨h1, h2, h3⟩
  refine Br.mk (fun h4 => ?_) (fun h4 => ?_)
  · refine Ob.mk (by omega) ?_
    intro x hx
    refine CallV.to _ (p_all1 x) rfl ?_
    refine Br.mk (fun h5 => ?_) (fun h5 => ?_)
    · refine LE_int ?_
      rw [badBm_at (i := i.toNat) (fun j q hj => h3 j q (by omega)) hx h5]; omega
    · refine Ar.fit (by omega) ?_
      refine ⟨i + 1, ⟨by omega, by omega, fun j q hj hq => ?_⟩, sub_of [] rfl rfl rfl ⟨rfl, rfl, rfl, rfl, trivial⟩ trivial, by dsimp only; omega⟩
      by_cases e : j = i.toNat
      · subst e; rw [hx] at hq; cases hq; exact Decidable.not_not.1 h5
      · exact h3 j q (by omega) hq
  · refine LE_int (badBm_none fun p hp => ?_).symm
    obtain ⟨j, hj, he⟩ := List.getElem_of_mem hp
    exact h3 j p (by omega) (by rw [← he]; exact List.getElem?_eq_getElem hj)
theorem p_acontains (xs : List Bm) (hl : xs.length ≤ 9223372036854775807) : CallsG Tryz.prog 97 [.sl bmE xs, .fn 98 []] [] (pr (¬ ∀ p ∈ xs, p.ok)) [] := by
  refine calls_to tok mix Tryz.func97 rfl rfl rfl ?_
  refine CallV.to _ (p_aindex xs hl) rfl ?_
  exact LE_pr badBm_nonneg
theorem p_all (xs : List Bm) (hl : xs.length ≤ 9223372036854775807) : CallsG Tryz.prog 54 [.sl bmE xs] [] (pr (∀ p ∈ xs, p.ok)) [] := by
  refine calls_to tok mix Tryz.func54 rfl rfl rfl ?_
  refine CallV.to _ (p_acontains xs hl) rfl ?_
  exact LE_pr Decidable.not_not
/-- BlendOver. -/
def overB (mode : Int) (s d : Bm) (m : Mk) : Bm × Int :=
  if ¬ (s.ok ∧ d.ok) then (zeroB, 15) else if ¬ m.ok then (zeroB, 14) else if ¬ modeOK mode then (zeroB, 2) else (⟨d.b, grid d.b fun x y => coverP mode (s.at_ x y) (d.at_ x y) (m.at_ x y)⟩, 0)
theorem two_ok {s d : Bm} : (∀ p ∈ [s, d], p.ok) ↔ (s.ok ∧ d.ok) := by simp
set_option maxRecDepth 100000 in
theorem p_over (mode : Int) (s d : Bm) (m : Mk) (s8 : B8 s) (d8 : B8 d) (m8 : ∀ c ∈ m.cv, R8 c) : CallsG Tryz.prog 23 [i64 mode, .agg (bmE s), .agg (bmE d), .agg (mkE m)] [] (bmR (overB mode s d m)) [(0, .arr 57 pixE 4 (overB mode s d m).1.px)] := by
  generalize hq : overB mode s d m = q
  refine calls_own tok mix Tryz.func23 rfl rfl rfl ?_
  refine ⟨Bm, bmE, [s, d], rfl, Ob.mk ⟨rfl, by decide, by decide, by decide, fun x hx => ⟨rfl, rfl, rfl⟩⟩ ?_⟩
  refine CallV.to _ (p_all [s, d] (show 2 ≤ 9223372036854775807 by decide)) rfl ?_
  refine Br.mk (fun h1 => ⟨none, bad_bm (q := q) (e := 15) (by rw [← hq, overB, if_pos (fun k => h1 (two_ok.2 k))])⟩) (fun h1 => ?_)
  have h1 := two_ok.1 (Decidable.not_not.1 h1)
  refine CallV.to _ (p_mvalid m) rfl ?_
  refine Br.mk (fun h2 => ⟨none, bad_bm (q := q) (e := 14) (by rw [← hq, overB, if_neg (fun k => k h1), if_pos h2])⟩) (fun h2 => ?_)
  refine CallV.to _ (p_mode mode) rfl ?_
  refine Br.mk (fun h3 => ⟨none, bad_bm (q := q) (e := 2) (by rw [← hq, overB, if_neg (fun k => k h1), if_neg h2, if_pos h3])⟩) (fun h3 => ?_)
  have e : q = (⟨d.b, grid d.b fun x y => coverP mode (s.at_ x y) (d.at_ x y) (m.at_ x y)⟩, 0) := by rw [← hq, overB, if_neg (fun k => k h1), if_neg h2, if_neg h3]
  clear hq
  subst e
  have key := p_made2 d.b h1.2.2.1 mode s d m h1.1 h1.2 (Decidable.not_not.1 h2) s8 d8 m8
  rw [h1.2.1] at key
  refine CallV.fresh _ _ key rfl (fun _ _ => rfl) (.inr (fun _ _ => rfl)) ?_
  exact ⟨some 6, take_tup (.cons (take_agg (.cons (take_int rfl) (.cons (take_int rfl) (.cons (take_int rfl) (.cons (take_int rfl) (.cons (.own _ rfl) .nil)))))) (.cons (take_int rfl) .nil)), rfl, fun _ _ => rfl⟩

end Go.Gs
/- A function whose own blocks are data from its end on: what it hands back may point at them. -/
namespace Go.Gs

/-- A value with what is one's own seen as data; 'prev': the cells of a box. -/
def frzS (prev : SV → SV) (lm : Nat → Option Mem) : SV → SV
  | .loc k off => (match lm k with
    | some (.box _ cs) => .dptr ((cs.map prev).drop off)
    | _ => .junk)
  | .own k => (match lm k with
    | some (.arr _ enc _ xs) => .sl enc xs
    | _ => .junk)
  | .fn f cs => .dfn f (frzs prev lm cs)
  | .agg cs => .agg (frzs prev lm cs)
  | .ifc t s => .ifc t (frzS prev lm s)
  | .val v => .val v
  | .pr p i => .pr p i
  | .sl enc xs => .sl enc xs
  | .dptr cs => .dptr cs
  | .dfn f cs => .dfn f cs
  | .nils => .nils
  | .anyb => .anyb
  | .full enc xs => .full enc xs
  | _ => .junk
  where
  frzs (prev : SV → SV) (lm : Nat → Option Mem) : List SV → List SV
    | [] => []
    | c :: cs => frzS prev lm c :: frzs prev lm cs
def frz (lm : Nat → Option Mem) : Nat → SV → SV
  | 0 => frzS (fun _ => .junk) lm
  | n + 1 => frzS (frz lm n) lm
def frzR (lm : Nat → Option Mem) (n : Nat) (s : SV) : SV :=
  match s with
  | .tup cs => .tup (cs.map (frz lm n))
  | s => frz lm n s

theorem frzs_map (prev : SV → SV) (lm : Nat → Option Mem) : ∀ cs, frzS.frzs prev lm cs = cs.map (frzS prev lm)
  | [] => rfl
  | c :: cs => by rw [frzS.frzs, frzs_map prev lm cs]; rfl

section
variable {Keep : Nat → Prop} {M : List (Nat × Mem)} {ρ : Names} {w : World} {lm : Nat → Option Mem}
theorem D.dat {S S' : Nat → Prop} (hS : ∀ b, S' b → S b) {s : SV} {v : Value} (h : D S w s v) : D S' w s v := h.less hS

theorem frzS_d (hlm : ∀ k m, lm k = some m → (k, m) ∈ M) (hm : MemOK Keep M ρ w) {prev : SV → SV}
    (hp : ∀ {s : SV} {v : Value}, G (fun b => Keep b ∨ Own M ρ b) (Own M ρ) ρ w s v → D Keep w (prev s) v) :
    ∀ (s : SV) {v : Value}, G (fun b => Keep b ∨ Own M ρ b) (Own M ρ) ρ w s v → D Keep w (frzS prev lm s) v := by
  have hsub : ∀ b, Keep b → Keep b ∨ Own M ρ b := fun b h => .inl h
  intro s
  induction s using SV.rec (motive_2 := fun cs => ∀ {vs : List Value}, Gs (fun b => Keep b ∨ Own M ρ b) (Own M ρ) ρ w cs vs → ∀ (j : Nat) (s : SV) (v : Value), (frzS.frzs prev lm cs)[j]? = some s → vs[j]? = some v → D Keep w s v) with
  | val v => intro u hg; rw [hg.val_inv]; exact .val v
  | pr p i => intro u hg; rw [hg.pr_inv]; exact .pr p i
  | sl enc xs => intro u hg; exact hg.sl_inv.less hsub
  | nils => intro u hg; obtain ⟨a, rfl⟩ := hg.nils_inv; exact .nils a
  | anyb => intro u hg; obtain ⟨b, rfl⟩ := hg.anyb_inv; exact .anyb b
  | full enc xs => intro u hg; obtain ⟨a, rfl, hd⟩ := hg.full_inv; exact .full enc xs a (hd.less hsub)
  | dptr cs _ => intro u hg; cases hg with | d _ _ h => exact h.less hsub
  | dfn f cs _ => intro u hg; cases hg with | d _ _ h => exact h.less hsub
  | ifc t s ih =>
    intro u hg
    obtain ⟨v, rfl, hv⟩ := hg.ifc_inv
    exact .ifc t _ v (ih hv)
  | agg cs ih =>
    intro u hg
    obtain ⟨vs, rfl, hvs⟩ := hg.agg_inv
    exact .agg _ vs (by rw [frzs_map, List.length_map]; exact hvs.1) (ih hvs)
  | fn f cs ih =>
    intro u hg
    obtain ⟨vs, rfl, hvs⟩ := hg.fn_inv
    exact .dfn f _ vs (by rw [frzs_map, List.length_map]; exact hvs.1) (ih hvs)
  | loc k off =>
    intro u hg
    obtain ⟨b, hρ, rfl⟩ := hg.loc_inv
    simp only [frzS]
    split
    · rename_i T cs hk
      have hmem := hlm k _ hk
      obtain ⟨b', vs, h1, h2, h3, h4, h5⟩ := hm.rel k _ hmem
      rw [hρ] at h1; cases h1
      have hb := hm.old b ⟨k, _, _, hmem, hρ, rfl⟩
      refine .dptr _ b off (fun j => (vs[off + j]?).getD undef) hb.1 hb.2 (fun j hj => ?_) (fun j s hs => ?_)
      · have hj' : off + j < vs.length := by simp at hj; omega
        rw [cell_row h2]
        simp only [List.getElem?_eq_getElem hj', Option.getD_some]
        exact ⟨trivial, h4 _ (List.getElem_mem hj')⟩
      · rw [List.getElem?_drop, List.getElem?_map] at hs
        cases hc : cs[off + j]? with
        | none => simp [hc] at hs
        | some c =>
          simp [hc] at hs
          subst hs
          have hj' : off + j < vs.length := by have := (List.getElem?_eq_some_iff.1 hc).1; omega
          rw [List.getElem?_eq_getElem hj', Option.getD_some]
          exact hp (h5 _ c _ hc (List.getElem?_eq_getElem hj'))
    · exact .junk _
  | own k =>
    intro u hg
    obtain ⟨hρ, h1⟩ := hg.own_inv
    simp only [frzS]
    split
    · rename_i T α enc sz xs hk
      have hmem := hlm k _ hk
      exact own_d hm hmem (fun b hb => .inl hb) (fun v b hv hb hk => (hm.old b ⟨k, _, v, hmem, hv, hb⟩).2 hk) hρ
    · exact .junk _
  | ptr cs _ => intro u _; exact .junk _
  | eloc _ _ _ _ => intro u _; exact .junk _
  | win _ _ _ _ => intro u _; exact .junk _
  | tup cs _ => intro u _; exact .junk _
  | junk => intro u _; exact .junk _
  | nil => rename_i vs _ j s v h _; simp [frzS.frzs] at h
  | cons c cs ihc ihcs =>
    rename_i vs hg j s v h hv
    obtain ⟨v0, vs', rfl, h1, h2⟩ := hg.cons_inv
    cases j with
    | zero => simp [frzS.frzs] at h hv; subst h; subst hv; exact ihc h1
    | succ j => exact ihcs h2 j s v (by simpa [frzS.frzs] using h) (by simpa using hv)

theorem frz_d (hlm : ∀ k m, lm k = some m → (k, m) ∈ M) (hm : MemOK Keep M ρ w) : ∀ (n : Nat) {s : SV} {v : Value}, G (fun b => Keep b ∨ Own M ρ b) (Own M ρ) ρ w s v → D Keep w (frz lm n s) v
  | 0, s, _, h => frzS_d hlm hm (fun _ => .junk _) s h
  | n + 1, s, _, h => frzS_d hlm hm (fun h => frz_d hlm hm n h) s h
end

/-- At a function's end: it returns 'r', and its blocks are data from now on. -/
def endF (n : Nat) (Γ : List (TypeId × TI)) (rs : List ResultVar) (r : SV) (e : Ex) (σ : St) : Prop :=
  match e with
  | .exit _ => False
  | _ => resV σ Γ rs fun s => LE (frzR (lookM σ.M) n s) r

theorem calls_data (n : Nat) {P : Program} {Γ : List (TypeId × TI)} (hT : TOK P Γ) (hm : P.follows .mixedOrders = true) {f : FuncId} {fn : Func} {c : Code} {args : List SV} {r : SV}
    (hf : P.funcs[f]? = some fn) (hb : fn.body = some c) (hn : (fn.name == "runtime.NumGoroutine") = false) (hle : Nat.ble args.length fn.ntmps = true)
    (h : vcCode P Γ c ⟨paramL 0 args, [], 0, fn.ntmps, 0⟩ (endF n Γ fn.results.toList r)) : CallsG P f args [] r [] := by
  refine calls_end hT hm hf hb hn hle h (fun e σ h => ⟨σ, .refl, h⟩) (fun e σ hq he => ?_) (fun id σ hq => hq)
  have hq : resV σ Γ fn.results.toList fun s => LE (frzR (lookM σ.M) n s) r := by
    cases e with
    | exit id => exact absurd rfl (he id)
    | normal => exact hq
    | ret => exact hq
  obtain ⟨s, hle, h1⟩ := resV_elim hT hq
  refine ⟨s, h1, fun {E ρ a w v} hr hW _ hg => ⟨ρ, ?_, ?_, ?_⟩⟩
  · have hs := hr.stp
    exact ⟨hs.os, hs.tape, hs.output, hs.size, fun b hb hn => hs.block b hb fun h => hn ((hW b).1 h), fun b hb => absurd hb own_nil, hs.rho⟩
  · exact memOK_nil hr.mem.kp
  · have hd : ∀ {s : SV} {v : Value}, G (fun b => E.Keep b ∨ Own σ.M ρ b) (Own σ.M ρ) ρ w s v → D (fun b => E.Keep b ∨ Own [] ρ b) w (frz (lookM σ.M) n s) v := fun h =>
      (frz_d (fun k m h => mem_lookM h) hr.mem n h).less fun b hb => hb.resolve_right own_nil
    refine hle _ _ _ _ _ ?_
    unfold frzR
    split
    · rename_i cs
      obtain ⟨vs, rfl, hvs⟩ := hg.tup_inv
      refine .tup _ vs (by rw [List.length_map]; exact hvs.1) fun j s v hs hv => ?_
      rw [List.getElem?_map] at hs
      cases hc : cs[j]? with
      | none => simp [hc] at hs
      | some c =>
        simp [hc] at hs
        subst hs
        exact .d _ _ (hd (hvs.2 j c v hc hv))
    · exact .d _ _ (hd hg)

end Go.Gs
/- A function that puts one call off: the call is made when it ends. -/
namespace Go.Gs

def keepLoc (p : Nat × SV) : Nat × SV :=
  match p.2 with
  | .loc k o => (p.1, .loc k o)
  | _ => (p.1, .junk)

theorem look_keepLoc : ∀ (L : List (Nat × SV)) (t : Nat) (s : SV), look (L.map keepLoc) t = some s → s = .junk ∨ ∃ k o, s = .loc k o ∧ look L t = some (.loc k o)
  | [], t, s, h => by simp [look] at h
  | (d, s0) :: L, t, s, h => by
    have e : (((d, s0) :: L).map keepLoc) = (d, (keepLoc (d, s0)).2) :: L.map keepLoc := by
      simp only [List.map_cons]; congr 1; unfold keepLoc; dsimp only; split <;> rfl
    rw [e, look_cons] at h
    split at h
    · rename_i hd
      cases h
      unfold keepLoc; dsimp only
      split
      · rename_i k o
        exact .inr ⟨k, o, rfl, by rw [look_cons, if_pos hd]⟩
      · exact .inl rfl
    · rename_i hd
      rcases look_keepLoc L t s h with h | ⟨k, o, h1, h2⟩
      · exact .inl h
      · exact .inr ⟨k, o, h1, by rw [look_cons, if_neg hd, h2]⟩

def isLoc : SV → Bool
  | .loc _ _ => true
  | _ => false

def onEnd (K : St → Prop) : Ex → St → Prop
  | .exit _, _ => False
  | .normal, σ => K σ
  | .ret, σ => K σ
def onGo (K : St → Prop) : Ex → St → Prop
  | .normal, σ => K σ
  | _, _ => False

/-- What is left when the body has ended: the call that was put off, then the results. -/
def dfrEnd (P : Program) (Γ : List (TypeId × TI)) (fn cfn : Func) (cc : Code) (caps : List SV) (r : SV) (σ3 : St) : Prop :=
  Nat.beq σ3.M.length σ3.nk = true ∧ vcCode P Γ cc ⟨paramL 0 caps, σ3.M, σ3.M.length, cfn.ntmps, σ3.M.length⟩ (onEnd fun σ4 => resV σ4 Γ cfn.results.toList fun _ =>
    resV ⟨σ3.L.map keepLoc, σ4.M, σ4.nk, σ3.nt, 0⟩ Γ fn.results.toList fun s => LE (viewR (lookM σ4.M) s) r)
def dfrGo (P : Program) (Γ : List (TypeId × TI)) (fn cfn : Func) (cf : FuncId) (t : Tmp) (rest cc : Code) (r : SV) (σ2 : St) : Prop :=
  ∃ caps, look σ2.L t = some (.fn cf caps) ∧ Nat.ble caps.length cfn.ntmps = true ∧ caps.all isLoc = true ∧ vcCode P Γ rest ⟨σ2.L, σ2.M, σ2.nk, σ2.nt, σ2.nk⟩ (onEnd (dfrEnd P Γ fn cfn cc caps r))

theorem calls_deferred {P : Program} {Γ : List (TypeId × TI)} (hT : TOK P Γ) (hm : P.follows .mixedOrders = true) {f cf : FuncId} {fn cfn : Func} {p0 p1 rest cc : Code} {id : Nat} {o1 o2 : Oper} {t : Tmp}
    {args : List SV} {r : SV} (hf : P.funcs[f]? = some fn) (hb : fn.body = some (.seq p0 (.seq p1 (.seq (.region id #[o1, o2] false) rest)))) (hn : (fn.name == "runtime.NumGoroutine") = false)
    (hle : Nat.ble args.length fn.ntmps = true) (ho : o2.op = .defer ⟨.value (.tmp t), #[], #[]⟩) (hg : o2.guard = none) (hd : o2.dst = none)
    (hcf : P.funcs[cf]? = some cfn) (hcb : cfn.body = some cc) (hcn : (cfn.name == "runtime.NumGoroutine") = false)
    (h : vcCode P Γ p0 ⟨paramL 0 args, [], 0, fn.ntmps, 0⟩ (onGo fun σ0 => vcCode P Γ p1 σ0 (onGo fun σ1 => vcOps P Γ false [o1, o2] [o1] 0 σ1 (dfrGo P Γ fn cfn cf t rest cc r)))) :
    CallsG P f args [] r [] := by
  refine ⟨⟨fn, hf, hn, by rw [hb]; rfl⟩, fun Keep ρ w vs hk hmem hρ hgs => ?_⟩
  have hRF : ∃ RF : Ending → World → Prop, ∀ e w', RF e w' ↔ ∃ v ρ', e = .returned v ∧ Stp (Own [] ρ) (Own [] ρ') ρ ρ' w w' ∧ MemOK Keep [] ρ' w' ∧ G (fun b => Keep b ∨ Own [] ρ' b) (Own [] ρ') ρ' w' r v := ⟨_, fun _ _ => Iff.rfl⟩
  obtain ⟨RF, hRF⟩ := hRF
  refine Calls.mono ?_ fun e w' h => (hRF e w').1 h
  refine calls_of_wp_defers hf hb ?_
  have hrel := enter_rel (nt := fn.ntmps) hmem hρ hgs (Nat.le_of_ble_eq_true hle)
  -- the first two pieces
  refine wp_seq (Code.wp_mono (fun e a0 w0 hq => ?_) (code_sound hT hm p0 hrel h))
  have gone : ∀ {K : St → Prop} {e : Exit} {a : Act} {w1 : World} {X : Prop}, PostOf ⟨w, ρ, Keep, Own [] ρ, []⟩ (onGo K) e a w1 → (∀ σ ρ', e = .normal → K σ → Rel ⟨w, ρ, Keep, Own [] ρ, []⟩ σ ρ' a w1 → X) → X := by
    intro K e a w1 X hq hX
    cases e with
    | normal => obtain ⟨σ, ρ', h1, h2⟩ := hq; exact hX σ ρ' rfl h1 h2
    | exit id => obtain ⟨σ, ρ', h1, _⟩ := hq; exact h1.elim
    | ret => obtain ⟨σ, ρ', h1, _⟩ := hq; exact h1.elim
    | _ => exact hq.elim
  refine gone hq fun σ0 ρ0 he h0 hr0 => ?_
  subst he
  refine wp_seq (Code.wp_mono (fun e a1 w1 hq => ?_) (code_sound hT hm p1 hr0 h0))
  refine gone hq fun σ1 ρ1 he h1 hr1 => ?_
  subst he
  -- the piece that puts the call off
  refine wp_seq (wp_region_list ?_)
  obtain ⟨σ', run, svs, s, md, h2, hgd, href, hdst, hrun⟩ := ops_step hT hr1 h1
  have hr1' : Rel ⟨w, ρ, Keep, Own [] ρ, []⟩ σ' ρ1 a1 w1 := by
    rcases href with rfl | ⟨t, s0, s1, q2, q3, rfl⟩
    · exact hr1
    · exact hr1.refine q2 q3
  have hnt : σ'.nt = σ1.nt := by rcases href with rfl | ⟨t, s0, s1, q2, q3, rfl⟩ <;> rfl
  have go2 : ∀ {ρ2 : Names} {a2 : Act} {w2 : World} {Q : Exit → Act → World → Prop}, (∀ a w, rest.wp P (bodyPostD P fn RF) a w → Q .normal a w) → Rel ⟨w, ρ, Keep, Own [] ρ, []⟩ (σ'.app o1.dst s md) ρ2 a2 w2 →
      wpList P #[o1, o2] Q [o2] a2 w2 := by
    intro ρ2 a2 w2 Q hQ hr2
    obtain ⟨caps, hlt, hcle, hall, h3⟩ := h2
    have hgt := (hr2.regs t _ hlt).2
    obtain ⟨cvs, hcv, hcg⟩ := hgt.fn_inv
    have hw : Region.wanted o2 (yielded (#[o1, o2] : Array Oper) a2.tmps) = true := hr2.wanted (all := [o1, o2]) (by simp [GuardIs, hg])
    unfold wpList
    rw [hw]
    simp only [if_true]
    refine .inl ?_
    unfold Oper.wp
    have hex : (execOp a2.eval o2).run P w2 = .ok (.defer ⟨.fn (.func cf) cvs.toArray, #[]⟩) w2 := by
      have hev : a2.eval (.tmp t) = .func (.func cf) #[] cvs.toArray := hcv
      simp only [execOp, ho, resolve, hev, Deferred.ofValue, Sem.run_bind, Sem.run_pure, Result.andThen_ok]
      simp
    rw [hex, Oper.upon_defer, hd]
    refine hQ _ _ ?_
    show rest.wp P _ { a2 with defers := _ :: a2.defers } w2
    have hd0 : a2.defers = [] := hr2.defers
    rw [hd0]
    -- the rest, with the call put off
    let E3 : Env := ⟨w2, ρ2, Keep, Own (σ'.app o1.dst s md).M ρ2, [⟨.fn (.func cf) cvs.toArray, #[]⟩]⟩
    have hr3 : Rel E3 ⟨(σ'.app o1.dst s md).L, (σ'.app o1.dst s md).M, (σ'.app o1.dst s md).nk, (σ'.app o1.dst s md).nt, (σ'.app o1.dst s md).nk⟩ ρ2 { a2 with defers := [⟨.fn (.func cf) cvs.toArray, #[]⟩] } w2 :=
      ⟨hr2.size, rfl, hr2.regs, hr2.mem, hr2.fresh, .refl, hr2.mem.kp, fun k v hv => by
        rcases Nat.lt_or_ge k (σ'.app o1.dst s md).nk with h | h
        · exact h
        · have hv : ρ2 k = some v := hv
          rw [hr2.fresh k h] at hv; cases hv⟩
    refine Code.wp_mono (fun e a3 w3 hq => ?_) (code_sound hT hm rest hr3 h3)
    have fin : ∀ σ3 ρ3, dfrEnd P Γ fn cfn cc caps r σ3 → Rel E3 σ3 ρ3 a3 w3 → Leaves P fn a3.tmps RF a3.defers .returning w3 := by
      intro σ3 ρ3 ⟨hbeq, h4⟩ hr3
      have hlen := Nat.eq_of_beq_eq_true hbeq
      have hd3 : a3.defers = [⟨.fn (.func cf) cvs.toArray, #[]⟩] := hr3.defers
      rw [hd3]
      have hρ3 : ∀ k, σ3.M.length ≤ k → ρ3 k = none := fun k hk => hr3.fresh k (by omega)
      have hcg3 : Gs (fun b => Keep b ∨ Own σ3.M ρ3 b) (Own σ3.M ρ3) ρ3 w3 caps cvs := by
        refine ⟨hcg.1, fun j s v hs hv => ?_⟩
        have hl : isLoc s = true := List.all_eq_true.1 hall s (List.mem_of_getElem? hs)
        cases s <;> try (simp [isLoc] at hl)
        rename_i k off
        obtain ⟨b, hb1, rfl⟩ := (hcg.2 j _ v hs hv).loc_inv
        exact .loc _ _ _ (hr3.stp.rho _ _ hb1)
      have hent := enter_rel (nt := cfn.ntmps) hr3.mem hρ3 hcg3 (Nat.le_of_ble_eq_true hcle)
      refine leaves_cons (by simp) (f := cf) (args := cvs.toArray) ?_ ?_
      · simp only [invoke, callFunc, Sem.run_bind, Sem.run_pure, Result.andThen_ok, run_program, hcf, hcn, hcb, Option.isNone_some, Bool.false_eq_true, if_false]
        simp
      · refine (callsD_of_wp (R := fun e w4 => ∃ v0, e = .returned v0 ∧ Leaves P fn a3.tmps RF [] .returning w4) hcf hcb ?_).mono ?_
        · refine Code.wp_mono (fun e a4 w4 hq => ?_) (code_sound hT hm cc hent h4)
          have fin2 : ∀ σ4 ρ4, (resV σ4 Γ cfn.results.toList fun _ => resV ⟨σ3.L.map keepLoc, σ4.M, σ4.nk, σ3.nt, 0⟩ Γ fn.results.toList fun s => LE (viewR (lookM σ4.M) s) r) →
              Rel ⟨w3, ρ3, Keep, Own σ3.M ρ3, []⟩ σ4 ρ4 a4 w4 → a4.defers = [] ∧ ∃ v, (results cfn a4.tmps).run P w4 = .ok v w4 ∧ ∃ v0, Ending.returned v = .returned v0 ∧
                Leaves P fn a3.tmps RF [] .returning w4 := by
            intro σ4 ρ4 h5 hr4
            obtain ⟨s0, h6, h7⟩ := resV_elim hT h5
            obtain ⟨v0, hv0, _⟩ := h7 hr4
            refine ⟨hr4.defers, v0, hv0, v0, rfl, ?_⟩
            have hst : Stp (Own [] ρ) (Own σ4.M ρ4) ρ ρ4 w w4 := (hr2.stp.trans hr3.stp).trans hr4.stp
            have hfin : Rel ⟨w, ρ, Keep, Own [] ρ, a3.defers⟩ ⟨σ3.L.map keepLoc, σ4.M, σ4.nk, σ3.nt, 0⟩ ρ4 a3 w4 := by
              refine ⟨hr3.size, rfl, fun t s hl => ?_, hr4.mem, hr4.fresh, hst, hk, fun k v hv => ?_⟩
              · rcases look_keepLoc σ3.L t s hl with rfl | ⟨k, o, rfl, h8⟩
                · refine ⟨?_, .d _ _ (.junk _)⟩
                  have : ∃ s, look σ3.L t = some s := by
                    clear h5 h6 h7 h4 hr3 hr4 hent
                    revert hl
                    generalize σ3.L = L
                    intro hl
                    induction L with
                    | nil => simp [look] at hl
                    | cons p L ih =>
                      obtain ⟨d, s0⟩ := p
                      by_cases hd : d = t
                      · exact ⟨s0, by rw [look_cons, if_pos hd]⟩
                      · rw [look_cons, if_neg hd]
                        refine ih ?_
                        have e : (((d, s0) :: L).map keepLoc) = (d, (keepLoc (d, s0)).2) :: L.map keepLoc := by
                          simp only [List.map_cons]; congr 1; unfold keepLoc; dsimp only; split <;> rfl
                        have hl' : look (((d, s0) :: L).map keepLoc) t = some .junk := hl
                        rw [e, look_cons, if_neg hd] at hl'
                        exact hl'
                  obtain ⟨s, hs⟩ := this
                  exact (hr3.regs t s hs).1
                · obtain ⟨h9, h10⟩ := hr3.regs t _ h8
                  refine ⟨h9, ?_⟩
                  obtain ⟨b, hb1, hb2⟩ := h10.loc_inv
                  rw [hb2]
                  exact .loc _ _ _ (hr4.stp.rho _ _ hb1)
              · have hv : ρ k = some v := hv
                rw [hρ k (Nat.zero_le _)] at hv; cases hv
            obtain ⟨s, hles, h8⟩ := resV_elim hT h6
            obtain ⟨v, hv, hgv⟩ := h8 hfin
            refine ⟨v, hv, (hRF _ _).2 ⟨v, ρ4, rfl, ?_, memOK_nil hfin.mem.kp, ?_⟩⟩
            · exact ⟨hst.os, hst.tape, hst.output, hst.size, fun b hb hn => hst.block b hb hn, fun b hb => absurd hb own_nil, hst.rho⟩
            · exact hles _ _ _ _ _ (viewR_g (fun k m h => mem_lookM h) hfin.mem (fun b hb => .inl (hb.resolve_right own_nil)) hgv (fun b hb hk => (hfin.mem.old b hb).2 (hk.resolve_right own_nil)) (fun _ => own_nil))
          cases e with
          | normal => obtain ⟨σ4, ρ4, h5, hr4⟩ := hq; exact fin2 σ4 ρ4 h5 hr4
          | ret => obtain ⟨σ4, ρ4, h5, hr4⟩ := hq; exact fin2 σ4 ρ4 h5 hr4
          | exit id => obtain ⟨σ4, ρ4, h5, _⟩ := hq; exact h5.elim
          | _ => exact hq.elim
        · rintro e u' w4 ⟨rfl, v0, rfl, hL⟩
          exact hL
    cases e with
    | normal => obtain ⟨σ3, ρ3, h4, hr3⟩ := hq; exact fin σ3 ρ3 h4 hr3
    | ret => obtain ⟨σ3, ρ3, h4, hr3⟩ := hq; exact fin σ3 ρ3 h4 hr3
    | exit id => obtain ⟨σ3, ρ3, h4, _⟩ := hq; exact h4.elim
    | _ => exact hq.elim
  unfold wpList
  rw [hr1'.wanted hgd]
  rcases hrun with ⟨rfl, hst⟩ | ⟨rfl, rfl, rfl⟩
  · simp only [if_true]
    refine .inl ((hst.does hr1').wp fun v w' ha => ?_)
    obtain ⟨ρ', hrel⟩ := hr1'.app (fun t e => hnt ▸ hdst t e) ha
    exact go2 (fun _ _ h => h) hrel
  · simp only [Bool.false_eq_true, if_false]
    obtain ⟨ρ', hrel⟩ := hr1'.app (fun t e => hnt ▸ hdst t e) (skip_after hr1'.mem)
    exact go2 (fun _ _ h => h) hrel

end Go.Gs
/- The root of a natural number, rounded down: the program's. -/
namespace Go.Gs
open Go.Proofs

/-- The root, rounded down. -/
def isq : Nat → Nat
  | 0 => 0
  | n + 1 => if (isq n + 1) * (isq n + 1) ≤ n + 1 then isq n + 1 else isq n
theorem isq_spec : ∀ n, isq n * isq n ≤ n ∧ n < (isq n + 1) * (isq n + 1)
  | 0 => by decide
  | n + 1 => by
    have h := isq_spec n
    rw [isq]
    split
    · rename_i h1
      refine ⟨h1, ?_⟩
      have : (isq n + 1 + 1) * (isq n + 1 + 1) = (isq n + 1) * (isq n + 1) + 2 * (isq n + 1) + 1 := by grind
      omega
    · exact ⟨by omega, by omega⟩
theorem isq_unique {n r : Nat} (h1 : r * r ≤ n) (h2 : n < (r + 1) * (r + 1)) : isq n = r := by
  have h := isq_spec n
  rcases Nat.lt_trichotomy (isq n) r with hlt | rfl | hgt
  · have : (isq n + 1) * (isq n + 1) ≤ r * r := Nat.mul_le_mul hlt hlt
    omega
  · rfl
  · have : (r + 1) * (r + 1) ≤ isq n * isq n := Nat.mul_le_mul hgt hgt
    omega
theorem isq_pos {n : Nat} (h : n ≠ 0) : 1 ≤ isq n := by
  have := isq_spec n
  rcases Nat.eq_zero_or_pos (isq n) with h0 | h0
  · rw [h0] at this; omega
  · exact h0
theorem isq_le {n x : Nat} (h : n < x * x) : isq n < x := by
  have := isq_spec n
  rcases Nat.lt_or_ge (isq n) x with h1 | h1
  · exact h1
  · have := Nat.mul_le_mul h1 h1; omega
theorem nbits_le {n k : Nat} (h : n < 2 ^ k) : nbits n ≤ k := by
  rcases Nat.eq_zero_or_pos n with h0 | h0
  · subst h0; rw [nbits_zero]; omega
  · have h1 := nbits_ge (n := n) (by omega)
    rcases Nat.lt_or_ge k (nbits n) with h2 | h2
    · have : 2 ^ k ≤ 2 ^ (nbits n - 1) := Nat.pow_le_pow_right (by decide) (by omega)
      omega
    · exact h2

theorem pow2_len {i k : Nat} (h : i < 32 * k) : (digs (2 ^ i)).length ≤ k := digs_len (by rw [pow32]; exact Nat.pow_lt_pow_right (by decide) h)

theorem digs_add_len {x y k : Nat} (hx : (digs x).length ≤ k) (hy : (digs y).length ≤ k) : (digs (x + y)).length ≤ k + 1 := digs_len (by
  have := digs_lt hx; have := digs_lt hy; rw [Nat.pow_succ]; omega)
theorem digs_mul_len {x y k l : Nat} (hx : (digs x).length ≤ k) (hy : (digs y).length ≤ l) : (digs (x * y)).length ≤ k + l := digs_len (by
  rw [Nat.pow_add]; exact Nat.mul_lt_mul'' (digs_lt hx) (digs_lt hy))

/-- A step of Newton's. -/
theorem newton_ge {a x r : Nat} (hx : x ≠ 0) (hr : r * r ≤ a) : r ≤ (x + a / x) / 2 := by
  rcases Nat.lt_or_ge ((x + a / x) / 2) r with h | h
  · exfalso
    have h1 : x + a / x + 1 ≤ 2 * r := by omega
    have h2 := Nat.div_add_mod a x
    have h3 := Nat.mod_lt a (by omega : 0 < x)
    generalize a / x = q at *
    have h4 : a < x * (q + 1) := by rw [Nat.mul_add]; omega
    have h5 : x * (q + 1) ≤ x * (2 * r - x) := Nat.mul_le_mul_left x (by omega)
    obtain ⟨d, hd⟩ : ∃ d, 2 * r = x + d := ⟨2 * r - x, by omega⟩
    rw [show 2 * r - x = d by omega] at h5
    have h6 : 4 * (x * d) ≤ (x + d) * (x + d) := by
      rcases Nat.le_total x d with h | h
      · obtain ⟨e, rfl⟩ := Nat.exists_eq_add_of_le h
        have : (x + (x + e)) * (x + (x + e)) = 4 * (x * (x + e)) + e * e := by grind
        omega
      · obtain ⟨e, rfl⟩ := Nat.exists_eq_add_of_le h
        have : (d + e + d) * (d + e + d) = 4 * ((d + e) * d) + e * e := by grind
        omega
    have h7 : (x + d) * (x + d) = 4 * (r * r) := by rw [← hd]; grind
    omega
  · exact h
theorem newton_end {a x : Nat} (_ : x ≠ 0) (hr : isq a ≤ x) (h : x ≤ (x + a / x) / 2) : x = isq a := by
  have h1 : x ≤ a / x := by omega
  have h2 : x * x ≤ a := Nat.le_trans (Nat.mul_le_mul_left x h1) (Nat.mul_div_le a x)
  rcases Nat.lt_or_ge (isq a) x with h3 | h3
  · have := isq_spec a
    have : (isq a + 1) * (isq a + 1) ≤ x * x := Nat.mul_le_mul h3 h3
    omega
  · omega

set_option maxRecDepth 100000 in
theorem n_sqrt (a : List Dig) (ha : a.length ≤ 200) : CallsG Tryz.prog 185 [.sl dgE a] [] (.sl dgE (digs (isq (val a)))) [] := by
  refine calls_to tok mix Tryz.func185 rfl rfl rfl ?_
  refine CallV.to _ (n_bitlen a (by omega)) rfl ?_
  have hnb : nbits (val a) ≤ 32 * a.length := nbits_le (by rw [← pow32]; exact val_lt a)
  have hlt := nbits_lt (val a)
  generalize hnv : nbits (val a) = nb at *
  refine Br.mk (fun h0 => ?_) (fun h0 => ?_)
  · have : val a = 0 := by
      have : nb = 0 := by omega
      subst this; simpa using hlt
    rw [this, show isq 0 = 0 from rfl, digs_zero]
    exact LE_nil0
  have hv0 : val a ≠ 0 := by
    intro h; rw [h, nbits_zero] at hnv; omega
  refine CallV.to _ (n_fromU64 1 (by decide)) rfl ?_
  refine CallV.to _ (n_bitlen a (by omega)) rfl ?_
  rw [hnv]
  refine Ar.fit (by omega) ?_
  refine Dv.pos ⟨by omega, by omega, by show _ ≤ (9223372036854775807 : Int); omega⟩ ?_
  have hpow : ∀ i : Nat, i ≤ 4096 → (digs (2 ^ i)).length ≤ 129 := fun i hi => pow2_len (by omega)
  refine ⟨Nat, fun i => ⟨[(16, i64 i), (15, i64 (((nb : Int) + 1) / 2)), (3, .sl dgE (digs (2 ^ i))), (0, .sl dgE a)], [], 0, 39, 0⟩, fun i => (i : Int) ≤ ((nb : Int) + 1) / 2, fun i => (((nb : Int) + 1) / 2 - i).toNat, 0, ?_, ?_, ?_⟩
  · show ((0 : Nat) : Int) ≤ _; omega
  · exact sub_of [] rfl rfl rfl ⟨rfl, rfl, rfl, rfl, trivial⟩ trivial
  rintro i hi
  refine Br.mk (fun h1 => ?_) (fun h1 => ?_)
  · have hl := hpow i (by omega)
    refine CallV.to _ (n_add (digs (2 ^ i)) (digs (2 ^ i)) (by omega) (by omega)) rfl ?_
    refine Ar.fit (by omega) ?_
    refine ⟨i + 1, (by show ((i + 1 : Nat) : Int) ≤ _; omega), sub_of [] rfl rfl rfl ⟨rfl, rfl, congrArg (fun n => some (SV.sl dgE (digs n))) (by rw [val_digs, Nat.pow_succ]; omega), rfl, trivial⟩ trivial, by dsimp only; omega⟩
  · have hi2 : 2 * i ≥ nb ∧ i ≤ 4096 := by omega
    have hbig : val a < 2 ^ i * 2 ^ i := by
      rw [← Nat.pow_add]
      exact Nat.lt_of_lt_of_le hlt (Nat.pow_le_pow_right (by decide) (by omega))
    have hone := isq_pos hv0
    have hsp := isq_spec (val a)
    refine ⟨Nat, fun x => ⟨[(3, .sl dgE (digs x)), (0, .sl dgE a)], [], 0, 39, 0⟩, fun x => isq (val a) ≤ x ∧ x ≤ 2 ^ i, fun x => x, 2 ^ i, ?_, ?_, ?_⟩
    · exact ⟨Nat.le_of_lt (isq_le hbig), Nat.le_refl _⟩
    · exact sub_of [] rfl rfl rfl ⟨rfl, rfl, trivial⟩ trivial
    rintro x ⟨h2, h3⟩
    have hxl : (digs x).length ≤ 129 := Nat.le_trans (digs_mono h3) (hpow i hi2.2)
    refine CallV.to _ (n_divmod a (digs x) (by omega) (by omega) (by rw [val_digs]; omega)) rfl ?_
    have hql : (digs (val a / val (digs x))).length ≤ 200 := Nat.le_trans (digs_mono (Nat.div_le_self _ _)) (Nat.le_trans (digs_val_len a) ha)
    refine CallV.to _ (n_add (digs x) (digs (val a / val (digs x))) (by omega) (by omega)) rfl ?_
    have hsl : (digs (val (digs x) + val (digs (val a / val (digs x))))).length ≤ 201 := digs_add_len (by rw [val_digs]; omega) (by rw [val_digs]; omega)
    refine CallV.to _ (n_shrS _ 1 (by omega) (by decide)) rfl ?_
    rw [val_digs, val_digs, val_digs, Nat.pow_one]
    have hy := newton_ge (a := val a) (x := x) (by omega) hsp.1
    have hyl : (digs ((x + val a / x) / 2)).length ≤ 201 := by
      rw [val_digs, val_digs] at hsl
      exact Nat.le_trans (digs_mono (Nat.div_le_self _ _)) hsl
    refine CallV.to _ (n_cmp (digs ((x + val a / x) / 2)) (digs x) (by omega) (by omega)) rfl ?_
    rw [val_digs, val_digs]
    refine Br.mk (fun h4 => ?_) (fun h4 => ?_)
    · have hge : x ≤ (x + val a / x) / 2 := by unfold cmpN at h4; split at h4 <;> (try split at h4) <;> omega
      exact LE_sl (by rw [newton_end (by omega) h2 hge])
    · have hlt2 : (x + val a / x) / 2 < x := by unfold cmpN at h4; split at h4 <;> (try split at h4) <;> omega
      exact ⟨(x + val a / x) / 2, ⟨hy, by omega⟩, sub_of [] rfl rfl rfl ⟨rfl, rfl, trivial⟩ trivial, hlt2⟩

end Go.Gs
/- The root of a natural number, rounded down: the other text's. -/
namespace Go.Gs
open Go.Proofs

set_option maxRecDepth 100000 in
theorem r1_sqrt (a : List Dig) (ha : a.length ≤ 200) : CallsG Tryz.prog 217 [.sl dgE a] [] (.sl dgE (digs (isq (val a)))) [] := by
  refine calls_to tok mix Tryz.func217 rfl rfl rfl ?_
  refine ⟨Dig, dgE, [], rfl, Ob.mk ⟨rfl, by decide, by decide, by decide, fun x hx => by cases hx⟩ ?_⟩
  refine CallV.to _ (r1_bitlen a (by omega)) rfl ?_
  have hnb : nbits (val a) ≤ 32 * a.length := nbits_le (by rw [← pow32]; exact val_lt a)
  have hlt := nbits_lt (val a)
  generalize hnv : nbits (val a) = nb at *
  refine Dv.pos ⟨by omega, by omega, by show _ ≤ (9223372036854775807 : Int); omega⟩ ?_
  have hdig : ∀ R : Nat, R * R ≤ val a → (digs R).length ≤ 200 := fun R h => by
    refine Nat.le_trans (digs_mono (Nat.le_trans ?_ h)) (Nat.le_trans (digs_val_len a) ha)
    rcases Nat.eq_zero_or_pos R with h0 | h0
    · subst h0; exact Nat.le_refl _
    · exact Nat.le_mul_of_pos_left R h0
  have hpow : ∀ i : Nat, i ≤ 4096 → (digs (2 ^ i)).length ≤ 129 := fun i hi => pow2_len (by omega)
  refine ⟨Nat × Nat, fun ⟨k, R⟩ => ⟨[(0, .sl dgE a), (3, .own 0), (4, i64 ((k : Int) - 1))], [(0, dArr (digs R))], 1, 27, 0⟩,
    fun q => q.1 ≤ 4097 ∧ q.2 * q.2 ≤ val a ∧ val a < (q.2 + 2 ^ q.1) * (q.2 + 2 ^ q.1), fun q => q.1, (nb / 2 + 1, 0), ?_, ?_, ?_⟩
  · refine ⟨by dsimp only; omega, Nat.zero_le _, ?_⟩
    dsimp only
    rw [Nat.zero_add, ← Nat.pow_add]
    exact Nat.lt_of_lt_of_le hlt (Nat.pow_le_pow_right (by decide) (by omega))
  · exact sub_of [(0, some 0)] rfl rfl rfl ⟨rfl, rfl, congrArg (fun n => some (i64 n)) (by omega), trivial⟩ ⟨congrArg (fun q => some (dArr q)) digs_zero.symm, trivial⟩
  rintro ⟨k, R⟩ ⟨h1, h2, h3⟩
  dsimp only at h1 h2 h3
  refine Br.mk (fun h4 => ?_) (fun h4 => ?_)
  · obtain ⟨i, rfl⟩ : ∃ i, k = i + 1 := ⟨k - 1, by omega⟩
    have hi : i ≤ 4096 := by omega
    have hl0 := hdig R h2
    have hp0 := hpow i hi
    have hS : (digs (R + 2 ^ i)).length ≤ 201 := digs_add_len (by omega) (by omega)
    have hQ : (digs ((R + 2 ^ i) * (R + 2 ^ i))).length ≤ 201 + 201 := digs_mul_len hS hS
    refine ⟨Dig, dgE, [⟨1, by decide⟩], rfl, Ob.mk (dOne _) ?_⟩
    have up := r1_up [(⟨1, by decide⟩ : Dig)] i (by show 1 ≤ _; decide) hi
    rw [show val [(⟨1, by decide⟩ : Dig)] * 2 ^ i = 2 ^ i by rw [val_cons, val_nil]; simp, show (i : Int) = ((i + 1 : Nat) : Int) - 1 by omega] at up
    refine CallV.fresh _ _ up rfl (dArr_flat _) (.inr (dArr_scalar _)) ?_
    have hadd := r1_add (digs R) (digs (2 ^ i)) (by omega) (by omega)
    rw [val_digs, val_digs] at hadd
    refine CallV.fresh _ _ hadd rfl (dArr_flat _) (.inr (dArr_scalar _)) ?_
    have hmul := r1_mul (digs (R + 2 ^ i)) (digs (R + 2 ^ i)) (by omega) (by omega)
    rw [val_digs] at hmul
    refine CallV.fresh _ _ hmul rfl (dArr_flat _) (.inr (dArr_scalar _)) ?_
    refine CallV.to _ (r1_cmp (digs ((R + 2 ^ i) * (R + 2 ^ i))) a (by omega) (by omega)) rfl ?_
    rw [val_digs]
    have hc := cmpN_gt (a := (R + 2 ^ i) * (R + 2 ^ i)) (b := val a)
    refine Br.mk (fun h5 => ?_) (fun h5 => ?_)
    · refine Ar.fit (by omega) ?_
      refine ⟨(i, R + 2 ^ i), ⟨by dsimp only; omega, by dsimp only; omega, ?_⟩, sub_of [(0, some 3)] rfl rfl rfl ⟨rfl, rfl, congrArg (fun n => some (i64 n)) (by omega), trivial⟩ ⟨rfl, trivial⟩, by dsimp only; omega⟩
      dsimp only
      rw [show R + 2 ^ i + 2 ^ i = R + 2 ^ (i + 1) by rw [Nat.pow_succ]; omega]
      exact h3
    · refine Ar.fit (by omega) ?_
      refine ⟨(i, R), ⟨by dsimp only; omega, h2, by dsimp only; omega⟩, sub_of [(0, some 0)] rfl rfl rfl ⟨rfl, rfl, congrArg (fun n => some (i64 n)) (by omega), trivial⟩ ⟨rfl, trivial⟩, by dsimp only; omega⟩
  · have hk : k = 0 := by omega
    subst hk
    exact LE_sl (by rw [isq_unique h2 h3])

end Go.Gs
/- Transforms, the program's. -/
namespace Go.Gs
open Go.Proofs

structure AF where
  a : BR
  b : BR
  c : BR
  d : BR
  e : BR
  f : BR
def afE (t : AF) : List SV := brE t.a ++ (brE t.b ++ (brE t.c ++ (brE t.d ++ (brE t.e ++ brE t.f))))
/-- No number is longer. -/
def AF.le (t : AF) (n : Nat) : Prop := t.a.len ≤ n ∧ t.b.len ≤ n ∧ t.c.len ≤ n ∧ t.d.len ≤ n ∧ t.e.len ≤ n ∧ t.f.len ≤ n
def AF.nth (t : AF) : Nat → BR
  | 0 => t.a
  | 1 => t.b
  | 2 => t.c
  | 3 => t.d
  | 4 => t.e
  | _ => t.f
/-- The first numbers are in lowest terms. -/
def stage (t : AF) : Nat → AF
  | 0 => t
  | 1 => { t with a := ofQ t.a.v }
  | 2 => { t with a := ofQ t.a.v, b := ofQ t.b.v }
  | 3 => { t with a := ofQ t.a.v, b := ofQ t.b.v, c := ofQ t.c.v }
  | 4 => { t with a := ofQ t.a.v, b := ofQ t.b.v, c := ofQ t.c.v, d := ofQ t.d.v }
  | 5 => { t with a := ofQ t.a.v, b := ofQ t.b.v, c := ofQ t.c.v, d := ofQ t.d.v, e := ofQ t.e.v }
  | _ => ⟨ofQ t.a.v, ofQ t.b.v, ofQ t.c.v, ofQ t.d.v, ofQ t.e.v, ofQ t.f.v⟩
def AF.nrm (t : AF) : AF := ⟨ofQ t.a.v, ofQ t.b.v, ofQ t.c.v, ofQ t.d.v, ofQ t.e.v, ofQ t.f.v⟩
def zero24 : List SV := (List.replicate 12 [bl false, SV.val (.slice none 0 0)]).flatten

set_option maxRecDepth 100000 in
set_option maxHeartbeats 4000000 in
theorem a_numbers (t : AF) (ht : t.le 400000000) : CallsG Tryz.prog 174 [.agg (afE t)] [] (.agg (afE t.nrm)) [] := by
  obtain ⟨ha, hb, hc, hd, he, hf⟩ := ht
  refine calls_to tok mix Tryz.func174 rfl rfl rfl ?_
  refine ⟨Nat, fun i => ⟨[(20, i64 i), (19, .agg (afE t)), (3, .loc 2 0), (2, .loc 1 0)], [(2, .box 189 (afE (stage t i))), (1, .box 189 zero24), (0, .box 43 (afE t))], 3, 30, 0⟩,
    fun i => i ≤ 6, fun i => 6 - i, 0, Nat.zero_le _, ?_, ?_⟩
  · exact sub_of [(0, some 0), (1, some 1), (2, some 2)] rfl rfl rfl ⟨rfl, rfl, rfl, rfl, trivial⟩ ⟨rfl, rfl, rfl, trivial⟩
  intro i hi
  have hi : i = 0 ∨ i = 1 ∨ i = 2 ∨ i = 3 ∨ i = 4 ∨ i = 5 ∨ i = 6 := by have hi : i ≤ 6 := hi; omega
  rcases hi with rfl | rfl | rfl | rfl | rfl | rfl | rfl
  · refine Br.mk (fun _ => ?_) (fun h => absurd (by decide) h)
    refine CallV.to _ (q_normalize t.a ha) rfl ?_
    refine Ar.fit (by decide) ?_
    exact ⟨1, (by show 1 ≤ 6; decide), sub_of [(0, some 0), (1, some 1), (2, some 2)] rfl rfl rfl ⟨rfl, rfl, rfl, rfl, trivial⟩ ⟨rfl, rfl, rfl, trivial⟩, by decide⟩
  · refine Br.mk (fun _ => ?_) (fun h => absurd (by decide) h)
    refine CallV.to _ (q_normalize t.b hb) rfl ?_
    refine Ar.fit (by decide) ?_
    exact ⟨2, (by show 2 ≤ 6; decide), sub_of [(0, some 0), (1, some 1), (2, some 2)] rfl rfl rfl ⟨rfl, rfl, rfl, rfl, trivial⟩ ⟨rfl, rfl, rfl, trivial⟩, by decide⟩
  · refine Br.mk (fun _ => ?_) (fun h => absurd (by decide) h)
    refine CallV.to _ (q_normalize t.c hc) rfl ?_
    refine Ar.fit (by decide) ?_
    exact ⟨3, (by show 3 ≤ 6; decide), sub_of [(0, some 0), (1, some 1), (2, some 2)] rfl rfl rfl ⟨rfl, rfl, rfl, rfl, trivial⟩ ⟨rfl, rfl, rfl, trivial⟩, by decide⟩
  · refine Br.mk (fun _ => ?_) (fun h => absurd (by decide) h)
    refine CallV.to _ (q_normalize t.d hd) rfl ?_
    refine Ar.fit (by decide) ?_
    exact ⟨4, (by show 4 ≤ 6; decide), sub_of [(0, some 0), (1, some 1), (2, some 2)] rfl rfl rfl ⟨rfl, rfl, rfl, rfl, trivial⟩ ⟨rfl, rfl, rfl, trivial⟩, by decide⟩
  · refine Br.mk (fun _ => ?_) (fun h => absurd (by decide) h)
    refine CallV.to _ (q_normalize t.e he) rfl ?_
    refine Ar.fit (by decide) ?_
    exact ⟨5, (by show 5 ≤ 6; decide), sub_of [(0, some 0), (1, some 1), (2, some 2)] rfl rfl rfl ⟨rfl, rfl, rfl, rfl, trivial⟩ ⟨rfl, rfl, rfl, trivial⟩, by decide⟩
  · refine Br.mk (fun _ => ?_) (fun h => absurd (by decide) h)
    refine CallV.to _ (q_normalize t.f hf) rfl ?_
    refine Ar.fit (by decide) ?_
    exact ⟨6, (by show 6 ≤ 6; decide), sub_of [(0, some 0), (1, some 1), (2, some 2)] rfl rfl rfl ⟨rfl, rfl, rfl, rfl, trivial⟩ ⟨rfl, rfl, rfl, trivial⟩, by decide⟩
  · refine Br.mk (fun h => absurd h (by decide)) (fun _ => ?_)
    exact .refl

set_option maxRecDepth 100000 in
set_option maxHeartbeats 4000000 in
theorem a_made (t : AF) : CallsG Tryz.prog 188 [.agg (afE t)] [] (.agg (afE t)) [] := by
  refine calls_to tok mix Tryz.func188 rfl rfl rfl ?_
  exact .refl

def okI (t : AF) : Nat → Prop
  | 0 => True
  | k + 1 => okI t k ∧ qbits (t.nth k).v ≤ 256
/-- The numbers are short enough. -/
def AF.ok (t : AF) : Prop := okI t 6
instance (t : AF) : ∀ n, Decidable (okI t n) := fun n => by
  induction n with
  | zero => exact isTrue trivial
  | succ k ih => unfold okI; exact instDecidableAnd
instance (t : AF) : Decidable t.ok := inferInstanceAs (Decidable (okI t 6))

set_option maxRecDepth 100000 in
set_option maxHeartbeats 4000000 in
theorem a_valid (t : AF) (ht : t.le 100000000) : CallsG Tryz.prog 117 [.agg (afE t)] [] (pr t.ok) [] := by
  have ht' := ht
  obtain ⟨ha, hb, hc, hd, he, hf⟩ := ht
  refine calls_to tok mix Tryz.func117 rfl rfl rfl ?_
  refine CallV.to _ (a_numbers t ⟨by omega, by omega, by omega, by omega, by omega, by omega⟩) rfl ?_
  refine ⟨Nat, fun i => ⟨[(6, .agg (afE t.nrm)), (7, i64 i)], [], 1, 14, 0⟩, fun i => i ≤ 6 ∧ okI t i, fun i => 6 - i, 0, ⟨Nat.zero_le _, trivial⟩, ?_, ?_⟩
  · exact sub_of [] rfl rfl rfl ⟨rfl, rfl, trivial⟩ trivial
  rintro i ⟨hi, ok⟩
  have hi : i = 0 ∨ i = 1 ∨ i = 2 ∨ i = 3 ∨ i = 4 ∨ i = 5 ∨ i = 6 := by omega
  rcases hi with rfl | rfl | rfl | rfl | rfl | rfl | rfl
  · refine Br.mk (fun _ => ?_) (fun h => absurd (by decide) h)
    have l1 := qlen_v t.a
    refine CallV.to _ (q_bitlen (ofQ t.a.v) (by rw [ofQ_len]; omega)) rfl ?_
    rw [ofQ_v]
    refine Br.mk (fun h => LE_false (fun h' => ?_)) (fun h => ?_)
    · simp only [AF.ok, okI, AF.nth] at h'; omega
    refine Ar.fit (by decide) ?_
    exact ⟨1, ⟨(by show 1 ≤ 6; decide), ok, (by show qbits t.a.v ≤ 256; omega)⟩, sub_of [] rfl rfl rfl ⟨rfl, rfl, trivial⟩ trivial, by decide⟩
  · refine Br.mk (fun _ => ?_) (fun h => absurd (by decide) h)
    have l1 := qlen_v t.b
    refine CallV.to _ (q_bitlen (ofQ t.b.v) (by rw [ofQ_len]; omega)) rfl ?_
    rw [ofQ_v]
    refine Br.mk (fun h => LE_false (fun h' => ?_)) (fun h => ?_)
    · simp only [AF.ok, okI, AF.nth] at h'; omega
    refine Ar.fit (by decide) ?_
    exact ⟨2, ⟨(by show 2 ≤ 6; decide), ok, (by show qbits t.b.v ≤ 256; omega)⟩, sub_of [] rfl rfl rfl ⟨rfl, rfl, trivial⟩ trivial, by decide⟩
  · refine Br.mk (fun _ => ?_) (fun h => absurd (by decide) h)
    have l1 := qlen_v t.c
    refine CallV.to _ (q_bitlen (ofQ t.c.v) (by rw [ofQ_len]; omega)) rfl ?_
    rw [ofQ_v]
    refine Br.mk (fun h => LE_false (fun h' => ?_)) (fun h => ?_)
    · simp only [AF.ok, okI, AF.nth] at h'; omega
    refine Ar.fit (by decide) ?_
    exact ⟨3, ⟨(by show 3 ≤ 6; decide), ok, (by show qbits t.c.v ≤ 256; omega)⟩, sub_of [] rfl rfl rfl ⟨rfl, rfl, trivial⟩ trivial, by decide⟩
  · refine Br.mk (fun _ => ?_) (fun h => absurd (by decide) h)
    have l1 := qlen_v t.d
    refine CallV.to _ (q_bitlen (ofQ t.d.v) (by rw [ofQ_len]; omega)) rfl ?_
    rw [ofQ_v]
    refine Br.mk (fun h => LE_false (fun h' => ?_)) (fun h => ?_)
    · simp only [AF.ok, okI, AF.nth] at h'; omega
    refine Ar.fit (by decide) ?_
    exact ⟨4, ⟨(by show 4 ≤ 6; decide), ok, (by show qbits t.d.v ≤ 256; omega)⟩, sub_of [] rfl rfl rfl ⟨rfl, rfl, trivial⟩ trivial, by decide⟩
  · refine Br.mk (fun _ => ?_) (fun h => absurd (by decide) h)
    have l1 := qlen_v t.e
    refine CallV.to _ (q_bitlen (ofQ t.e.v) (by rw [ofQ_len]; omega)) rfl ?_
    rw [ofQ_v]
    refine Br.mk (fun h => LE_false (fun h' => ?_)) (fun h => ?_)
    · simp only [AF.ok, okI, AF.nth] at h'; omega
    refine Ar.fit (by decide) ?_
    exact ⟨5, ⟨(by show 5 ≤ 6; decide), ok, (by show qbits t.e.v ≤ 256; omega)⟩, sub_of [] rfl rfl rfl ⟨rfl, rfl, trivial⟩ trivial, by decide⟩
  · refine Br.mk (fun _ => ?_) (fun h => absurd (by decide) h)
    have l1 := qlen_v t.f
    refine CallV.to _ (q_bitlen (ofQ t.f.v) (by rw [ofQ_len]; omega)) rfl ?_
    rw [ofQ_v]
    refine Br.mk (fun h => LE_false (fun h' => ?_)) (fun h => ?_)
    · simp only [AF.ok, okI, AF.nth] at h'; omega
    refine Ar.fit (by decide) ?_
    exact ⟨6, ⟨(by show 6 ≤ 6; decide), ok, (by show qbits t.f.v ≤ 256; omega)⟩, sub_of [] rfl rfl rfl ⟨rfl, rfl, trivial⟩ trivial, by decide⟩
  · refine Br.mk (fun h => absurd h (by decide)) (fun _ => ?_)
    exact LE_true ok

theorem a_twos (a b c d : BR) (ha : a.len ≤ 10000000) (hb : b.len ≤ 10000000) (hc : c.len ≤ 10000000) (hd : d.len ≤ 10000000) :
    CallsG Tryz.prog 116 [.agg (brE a), .agg (brE b), .agg (brE c), .agg (brE d)] [] (.agg (brE (ofQ (a.v * b.v + c.v * d.v)))) [] := by
  have l1 := qlen_v a
  have l2 := qlen_v b
  have l3 := qlen_v c
  have l4 := qlen_v d
  have m1 := qlen_mul a.v b.v
  have m2 := qlen_mul c.v d.v
  refine calls_to tok mix Tryz.func116 rfl rfl rfl ?_
  refine Dr.mk (by decide +kernel) ?_
  refine CallV.to _ (q_mul a b (by omega) (by omega)) rfl ?_
  refine CallV.to _ (q_mul c d (by omega) (by omega)) rfl ?_
  refine CallV.to _ (q_add (ofQ (a.v * b.v)) (ofQ (c.v * d.v)) (by rw [ofQ_len]; omega) (by rw [ofQ_len]; omega)) rfl ?_
  rw [ofQ_v, ofQ_v]
  exact .refl

def applX (t : AF) (x y : Rat) : Rat := t.a.v * x + t.c.v * y + t.e.v
def applY (t : AF) (x y : Rat) : Rat := t.b.v * x + t.d.v * y + t.f.v
theorem qlen_twos (a b c d e : BR) {n : Nat} (h1 : a.len ≤ n) (h2 : b.len ≤ n) (h3 : c.len ≤ n) (h4 : d.len ≤ n) (h5 : e.len ≤ n) : qlen (a.v * b.v + c.v * d.v) ≤ 4 * n + 5 ∧ qlen (a.v * b.v + c.v * d.v + e.v) ≤ 5 * n + 7 := by
  have l1 := qlen_v a
  have l2 := qlen_v b
  have l3 := qlen_v c
  have l4 := qlen_v d
  have l5 := qlen_v e
  have m1 := qlen_mul a.v b.v
  have m2 := qlen_mul c.v d.v
  have m3 := qlen_add (a.v * b.v) (c.v * d.v)
  have m4 := qlen_add (a.v * b.v + c.v * d.v) e.v
  omega
theorem a_exact (t : AF) (x y : BR) (ht : t.le 5000000) (hx : x.len ≤ 5000000) (hy : y.len ≤ 5000000) :
    CallsG Tryz.prog 85 [.agg (afE t), .agg (brE x), .agg (brE y)] [] (.tup [.agg (brE (ofQ (applX t x.v y.v))), .agg (brE (ofQ (applY t x.v y.v)))]) [] := by
  obtain ⟨ha, hb, hc, hd, he, hf⟩ := ht
  have m1 := qlen_twos t.a x t.c y t.e ha hx hc hy he
  have m2 := qlen_twos t.b x t.d y t.f hb hx hd hy hf
  refine calls_to tok mix Tryz.func85 rfl rfl rfl ?_
  refine Dr.mk (by decide +kernel) ?_
  refine CallV.to _ (a_twos t.a x t.c y (by omega) (by omega) (by omega) (by omega)) rfl ?_
  refine CallV.to _ (q_add (ofQ (t.a.v * x.v + t.c.v * y.v)) t.e (by rw [ofQ_len]; omega) (by omega)) rfl ?_
  refine CallV.to _ (a_twos t.b x t.d y (by omega) (by omega) (by omega) (by omega)) rfl ?_
  refine CallV.to _ (q_add (ofQ (t.b.v * x.v + t.d.v * y.v)) t.f (by rw [ofQ_len]; omega) (by omega)) rfl ?_
  rw [ofQ_v, ofQ_v]
  exact .refl

end Go.Gs
/- Transforms, the program's: the identity and translations. -/
namespace Go.Gs
open Go.Proofs

/-- The transform with these numbers. -/
def afQ (a b c d e f : Rat) : AF := ⟨ofQ a, ofQ b, ofQ c, ofQ d, ofQ e, ofQ f⟩

set_option maxRecDepth 100000 in
set_option maxHeartbeats 4000000 in
theorem a_ints (a b c d : Int) (ha : R64 a) (hb : R64 b) (hc : R64 c) (hd : R64 d) : CallsG Tryz.prog 187 [i64 a, i64 b, i64 c, i64 d] [] (.agg (afE (afQ a b c d ((0 : Int) : Rat) ((0 : Int) : Rat)))) [] := by
  refine calls_to tok mix Tryz.func187 rfl rfl rfl ?_
  refine CallV.to _ (q_fromint a ha) rfl ?_
  refine CallV.to _ (q_fromint b hb) rfl ?_
  refine CallV.to _ (q_fromint c hc) rfl ?_
  refine CallV.to _ (q_fromint d hd) rfl ?_
  refine CallV.to _ (q_fromint 0 (by decide)) rfl ?_
  refine CallV.to _ (q_fromint 0 (by decide)) rfl ?_
  refine CallV.to _ (a_made (afQ a b c d ((0 : Int) : Rat) ((0 : Int) : Rat))) rfl ?_
  exact .refl

set_option maxRecDepth 100000 in
set_option maxHeartbeats 4000000 in
theorem a_identity : CallsG Tryz.prog 132 [] [] (.agg (afE (afQ ((1 : Int) : Rat) ((0 : Int) : Rat) ((0 : Int) : Rat) ((1 : Int) : Rat) ((0 : Int) : Rat) ((0 : Int) : Rat)))) [] := by
  refine calls_to tok mix Tryz.func132 rfl rfl rfl ?_
  refine CallV.to _ (a_ints 1 0 0 1 (by decide) (by decide) (by decide) (by decide)) rfl ?_
  exact .refl

end Go.Gs
/- Transforms, the program's: equality, determinant, composition, inverse. -/
namespace Go.Gs
open Go.Proofs

theorem q_sub_le (x y : Rat) : qlen (x - y) ≤ qlen x + qlen y + 1 := qlen_sub x y
theorem q_quo_eq (x y : Rat) : Rat.divInt (x.num * y.den) (x.den * y.num) = x / y := by
  have := Rat.divInt_mul_divInt x.num (y.den : Int) (d₁ := x.den) (d₂ := y.num)
  rw [Rat.num_divInt_den, ← Rat.inv_def] at this
  exact this.symm

theorem q_quo (a b : BR) (ha : a.len ≤ 50000000) (hb : b.len ≤ 50000000) (h0 : b.v ≠ 0) : CallsG Tryz.prog 136 [.agg (brE a), .agg (brE b)] [] (.tup [.agg (brE (ofQ (a.v / b.v))), i64 0]) [] := by
  have h1 := qlen_v a
  have h2 := qlen_v b
  have h3 := ofQ_l a.v
  have h4 := ofQ_l b.v
  have n1 := qlen_num a.v
  have n2 := qlen_num b.v
  have d1 := qlen_den a.v
  have d2 := qlen_den b.v
  have m1 := zlen_mul a.v.num b.v.den
  have m3 := zlen_mul a.v.den b.v.num
  refine calls_to tok mix Tryz.func136 rfl rfl rfl ?_
  refine Dr.mk (by decide +kernel) ?_
  refine CallV.to _ (q_normalize a (by omega)) rfl ?_
  refine CallV.to _ (q_normalize b (by omega)) rfl ?_
  refine Dr.mk (by decide +kernel) ?_
  refine CallV.to _ (z_mul (ofQ a.v).num (ofQ b.v).den (by omega) (by omega)) rfl ?_
  refine CallV.to _ (z_mul (ofQ a.v).den (ofQ b.v).num (by omega) (by omega)) rfl ?_
  rw [ofQ_num, ofQ_num, ofQ_den, ofQ_den]
  refine CallV.to _ (q_new (ofZ (a.v.num * b.v.den)) (ofZ (a.v.den * b.v.num)) (by rw [ofZ_len]; omega) (by rw [ofZ_len]; omega) (by
    rw [ofZ_v]; exact Int.mul_ne_zero (den_ne _) (fun h => h0 (Rat.num_eq_zero.1 h)))) rfl ?_
  rw [ofZ_v, ofZ_v, q_quo_eq]
  exact .refl

theorem q_neg (a : BR) (ha : a.len ≤ 100000000) : CallsG Tryz.prog 137 [.agg (brE a)] [] (.agg (brE (ofQ (-a.v)))) [] := by
  have h1 := qlen_v a
  have h3 := ofQ_l a.v
  refine calls_to tok mix Tryz.func137 rfl rfl rfl ?_
  refine CallV.to _ (q_normalize a (by omega)) rfl ?_
  refine Dr.mk (by decide +kernel) ?_
  refine CallV.to _ (z_neg (ofQ a.v).num (by omega)) rfl ?_
  rw [ofQ_num, show ofQ (-a.v) = ⟨ofZ (-a.v.num), ofZ a.v.den⟩ by unfold ofQ; rw [Rat.neg_num, Rat.neg_den]]
  exact .refl

/-- The same numbers. -/
def AF.same (t u : AF) : Prop := t.a.v = u.a.v ∧ t.b.v = u.b.v ∧ t.c.v = u.c.v ∧ t.d.v = u.d.v ∧ t.e.v = u.e.v ∧ t.f.v = u.f.v
instance (t u : AF) : Decidable (t.same u) := inferInstanceAs (Decidable (_ ∧ _))
theorem cmpQ_zero {x y : Rat} : cmpQ x y = 0 ↔ x = y := by
  constructor
  · intro h
    exact Rat.le_antisymm (cmpQ_le.1 (by omega)) (cmpQ_ge.1 (by omega))
  · rintro rfl
    unfold cmpQ; rw [Int.sub_self]; rfl
theorem AF.le_len {t : AF} {n : Nat} (h : t.le n) : t.nrm.le (max n 1) := by
  obtain ⟨h1, h2, h3, h4, h5, h6⟩ := h
  have l1 := qlen_v t.a
  have l2 := qlen_v t.b
  have l3 := qlen_v t.c
  have l4 := qlen_v t.d
  have l5 := qlen_v t.e
  have l6 := qlen_v t.f
  refine ⟨?_, ?_, ?_, ?_, ?_, ?_⟩ <;> (show (ofQ _).len ≤ _; rw [ofQ_len]; omega)

def samesI (t u : AF) : Nat → Prop
  | 0 => True
  | k + 1 => samesI t u k ∧ (t.nth k).v = (u.nth k).v

set_option maxRecDepth 100000 in
set_option maxHeartbeats 4000000 in
theorem a_equal (t u : AF) (ht : t.le 10000000) (hu : u.le 10000000) : CallsG Tryz.prog 120 [.agg (afE t), .agg (afE u)] [] (pr (t.same u)) [] := by
  refine calls_to tok mix Tryz.func120 rfl rfl rfl ?_
  refine Dr.mk (by decide +kernel) ?_
  obtain ⟨ha, hb, hc, hd, he, hf⟩ := ht
  obtain ⟨ka, kb, kc, kd, ke, kf⟩ := hu
  refine CallV.to _ (a_numbers t ⟨by omega, by omega, by omega, by omega, by omega, by omega⟩) rfl ?_
  refine CallV.to _ (a_numbers u ⟨by omega, by omega, by omega, by omega, by omega, by omega⟩) rfl ?_
  refine ⟨Nat, fun i => ⟨[(14, i64 i), (13, .agg (afE t.nrm)), (6, .loc 3 0)], [(3, .box 189 (afE u.nrm))], 4, 25, 0⟩, fun i => i ≤ 6 ∧ samesI t u i, fun i => 6 - i, 0, ⟨Nat.zero_le _, trivial⟩, ?_, ?_⟩
  · exact sub_of [(3, some 3)] rfl rfl rfl ⟨rfl, rfl, rfl, trivial⟩ ⟨rfl, trivial⟩
  rintro i ⟨hi, ok⟩
  have hi : i = 0 ∨ i = 1 ∨ i = 2 ∨ i = 3 ∨ i = 4 ∨ i = 5 ∨ i = 6 := by omega
  have l1 := qlen_v t.a
  have l2 := qlen_v t.b
  have l3 := qlen_v t.c
  have l4 := qlen_v t.d
  have l5 := qlen_v t.e
  have l6 := qlen_v t.f
  have j1 := qlen_v u.a
  have j2 := qlen_v u.b
  have j3 := qlen_v u.c
  have j4 := qlen_v u.d
  have j5 := qlen_v u.e
  have j6 := qlen_v u.f
  rcases hi with rfl | rfl | rfl | rfl | rfl | rfl | rfl
  · refine Br.mk (fun _ => ?_) (fun h => absurd (by decide) h)
    refine Dr.mk (by decide +kernel) ?_
    refine CallV.to _ (q_cmp (ofQ t.a.v) (ofQ u.a.v) (by rw [ofQ_len]; omega) (by rw [ofQ_len]; omega)) rfl ?_
    rw [ofQ_v, ofQ_v]
    refine Br.mk (fun h => LE_false (fun h1 => h (cmpQ_zero.2 h1.1))) (fun h => ?_)
    have h := cmpQ_zero.1 (Decidable.not_not.1 h)
    refine Ar.fit (by decide) ?_
    exact ⟨1, ⟨(by show 1 ≤ 6; decide), ok, h⟩, sub_of [(3, some 3)] rfl rfl rfl ⟨rfl, rfl, rfl, trivial⟩ ⟨rfl, trivial⟩, by decide⟩
  · refine Br.mk (fun _ => ?_) (fun h => absurd (by decide) h)
    refine Dr.mk (by decide +kernel) ?_
    refine CallV.to _ (q_cmp (ofQ t.b.v) (ofQ u.b.v) (by rw [ofQ_len]; omega) (by rw [ofQ_len]; omega)) rfl ?_
    rw [ofQ_v, ofQ_v]
    refine Br.mk (fun h => LE_false (fun h1 => h (cmpQ_zero.2 h1.2.1))) (fun h => ?_)
    have h := cmpQ_zero.1 (Decidable.not_not.1 h)
    refine Ar.fit (by decide) ?_
    exact ⟨2, ⟨(by show 2 ≤ 6; decide), ok, h⟩, sub_of [(3, some 3)] rfl rfl rfl ⟨rfl, rfl, rfl, trivial⟩ ⟨rfl, trivial⟩, by decide⟩
  · refine Br.mk (fun _ => ?_) (fun h => absurd (by decide) h)
    refine Dr.mk (by decide +kernel) ?_
    refine CallV.to _ (q_cmp (ofQ t.c.v) (ofQ u.c.v) (by rw [ofQ_len]; omega) (by rw [ofQ_len]; omega)) rfl ?_
    rw [ofQ_v, ofQ_v]
    refine Br.mk (fun h => LE_false (fun h1 => h (cmpQ_zero.2 h1.2.2.1))) (fun h => ?_)
    have h := cmpQ_zero.1 (Decidable.not_not.1 h)
    refine Ar.fit (by decide) ?_
    exact ⟨3, ⟨(by show 3 ≤ 6; decide), ok, h⟩, sub_of [(3, some 3)] rfl rfl rfl ⟨rfl, rfl, rfl, trivial⟩ ⟨rfl, trivial⟩, by decide⟩
  · refine Br.mk (fun _ => ?_) (fun h => absurd (by decide) h)
    refine Dr.mk (by decide +kernel) ?_
    refine CallV.to _ (q_cmp (ofQ t.d.v) (ofQ u.d.v) (by rw [ofQ_len]; omega) (by rw [ofQ_len]; omega)) rfl ?_
    rw [ofQ_v, ofQ_v]
    refine Br.mk (fun h => LE_false (fun h1 => h (cmpQ_zero.2 h1.2.2.2.1))) (fun h => ?_)
    have h := cmpQ_zero.1 (Decidable.not_not.1 h)
    refine Ar.fit (by decide) ?_
    exact ⟨4, ⟨(by show 4 ≤ 6; decide), ok, h⟩, sub_of [(3, some 3)] rfl rfl rfl ⟨rfl, rfl, rfl, trivial⟩ ⟨rfl, trivial⟩, by decide⟩
  · refine Br.mk (fun _ => ?_) (fun h => absurd (by decide) h)
    refine Dr.mk (by decide +kernel) ?_
    refine CallV.to _ (q_cmp (ofQ t.e.v) (ofQ u.e.v) (by rw [ofQ_len]; omega) (by rw [ofQ_len]; omega)) rfl ?_
    rw [ofQ_v, ofQ_v]
    refine Br.mk (fun h => LE_false (fun h1 => h (cmpQ_zero.2 h1.2.2.2.2.1))) (fun h => ?_)
    have h := cmpQ_zero.1 (Decidable.not_not.1 h)
    refine Ar.fit (by decide) ?_
    exact ⟨5, ⟨(by show 5 ≤ 6; decide), ok, h⟩, sub_of [(3, some 3)] rfl rfl rfl ⟨rfl, rfl, rfl, trivial⟩ ⟨rfl, trivial⟩, by decide⟩
  · refine Br.mk (fun _ => ?_) (fun h => absurd (by decide) h)
    refine Dr.mk (by decide +kernel) ?_
    refine CallV.to _ (q_cmp (ofQ t.f.v) (ofQ u.f.v) (by rw [ofQ_len]; omega) (by rw [ofQ_len]; omega)) rfl ?_
    rw [ofQ_v, ofQ_v]
    refine Br.mk (fun h => LE_false (fun h1 => h (cmpQ_zero.2 h1.2.2.2.2.2))) (fun h => ?_)
    have h := cmpQ_zero.1 (Decidable.not_not.1 h)
    refine Ar.fit (by decide) ?_
    exact ⟨6, ⟨(by show 6 ≤ 6; decide), ok, h⟩, sub_of [(3, some 3)] rfl rfl rfl ⟨rfl, rfl, rfl, trivial⟩ ⟨rfl, trivial⟩, by decide⟩
  · refine Br.mk (fun h => absurd h (by decide)) (fun _ => ?_)
    obtain ⟨⟨⟨⟨⟨⟨_, o1⟩, o2⟩, o3⟩, o4⟩, o5⟩, o6⟩ := ok
    exact LE_true ⟨o1, o2, o3, o4, o5, o6⟩

theorem qlen_bits {q : Rat} (h : qbits q ≤ 256) : qlen q ≤ 8 := by
  have key : ∀ n : Nat, nbits n ≤ 256 → (digs n).length ≤ 8 := fun n hn => digs_len (by
    have := nbits_lt n
    have h2 : 2 ^ nbits n ≤ 2 ^ 256 := Nat.pow_le_pow_right (by decide) hn
    have h3 : (4294967296 : Nat) ^ 8 = 2 ^ 256 := by decide
    rw [h3]; omega)
  unfold qbits at h
  unfold qlen zlen
  have h1 := key q.num.natAbs (by omega)
  have h2 := key q.den (by omega)
  rw [Int.natAbs_natCast]
  omega
theorem ok_le {t : AF} (h : t.nrm.ok) : t.nrm.le 8 := by
  obtain ⟨⟨⟨⟨⟨⟨_, o1⟩, o2⟩, o3⟩, o4⟩, o5⟩, o6⟩ := h
  simp only [AF.nth, AF.nrm, ofQ_v] at o1 o2 o3 o4 o5 o6
  exact ⟨by show (ofQ _).len ≤ _; rw [ofQ_len]; exact qlen_bits o1, by show (ofQ _).len ≤ _; rw [ofQ_len]; exact qlen_bits o2, by show (ofQ _).len ≤ _; rw [ofQ_len]; exact qlen_bits o3,
    by show (ofQ _).len ≤ _; rw [ofQ_len]; exact qlen_bits o4, by show (ofQ _).len ≤ _; rw [ofQ_len]; exact qlen_bits o5, by show (ofQ _).len ≤ _; rw [ofQ_len]; exact qlen_bits o6⟩

def detQ (t : AF) : Rat := t.a.v * t.d.v - t.b.v * t.c.v
theorem a_det (t : AF) (ht : t.le 10000000) : CallsG Tryz.prog 125 [.agg (afE t)] [] (.agg (brE (ofQ (detQ t)))) [] := by
  obtain ⟨ha, hb, hc, hd, he, hf⟩ := ht
  have l1 := qlen_v t.a
  have l2 := qlen_v t.b
  have l3 := qlen_v t.c
  have l4 := qlen_v t.d
  have m1 := qlen_mul t.a.v t.d.v
  have m2 := qlen_mul t.b.v t.c.v
  refine calls_to tok mix Tryz.func125 rfl rfl rfl ?_
  refine Dr.mk (by decide +kernel) ?_
  refine CallV.to _ (q_mul t.a t.d (by omega) (by omega)) rfl ?_
  refine CallV.to _ (q_mul t.b t.c (by omega) (by omega)) rfl ?_
  refine CallV.to _ (q_sub (ofQ (t.a.v * t.d.v)) (ofQ (t.b.v * t.c.v)) (by rw [ofQ_len]; omega) (by rw [ofQ_len]; omega)) rfl ?_
  rw [ofQ_v, ofQ_v]
  exact .refl

theorem a_normalize (t : AF) (ht : t.le 100000000) : CallsG Tryz.prog 134 [.agg (afE t)] [] (.agg (afE t.nrm)) [] := by
  obtain ⟨ha, hb, hc, hd, he, hf⟩ := ht
  refine calls_to tok mix Tryz.func134 rfl rfl rfl ?_
  refine CallV.to _ (a_numbers t ⟨by omega, by omega, by omega, by omega, by omega, by omega⟩) rfl ?_
  refine CallV.to _ (a_made t.nrm) rfl ?_
  exact .refl

/-- First 't', then 'u'. -/
def beh (t u : AF) : AF := afQ (u.a.v * t.a.v + u.c.v * t.b.v) (u.b.v * t.a.v + u.d.v * t.b.v) (u.a.v * t.c.v + u.c.v * t.d.v) (u.b.v * t.c.v + u.d.v * t.d.v) (applX u t.e.v t.f.v) (applY u t.e.v t.f.v)
set_option maxRecDepth 100000 in
set_option maxHeartbeats 4000000 in
theorem a_behind (t u : AF) (ht : t.le 1000000) (hu : u.le 1000000) : CallsG Tryz.prog 133 [.agg (afE t), .agg (afE u)] [] (.agg (afE (beh t u))) [] := by
  have ht' := ht
  have hu' := hu
  obtain ⟨ha, hb, hc, hd, he, hf⟩ := ht
  obtain ⟨ka, kb, kc, kd, ke, kf⟩ := hu
  refine calls_to tok mix Tryz.func133 rfl rfl rfl ?_
  refine CallV.to _ (a_exact u t.e t.f ⟨by omega, by omega, by omega, by omega, by omega, by omega⟩ (by omega) (by omega)) rfl ?_
  refine Dr.mk (by decide +kernel) ?_
  refine CallV.to _ (a_twos u.a t.a u.c t.b (by omega) (by omega) (by omega) (by omega)) rfl ?_
  refine CallV.to _ (a_twos u.b t.a u.d t.b (by omega) (by omega) (by omega) (by omega)) rfl ?_
  refine CallV.to _ (a_twos u.a t.c u.c t.d (by omega) (by omega) (by omega) (by omega)) rfl ?_
  refine CallV.to _ (a_twos u.b t.c u.d t.d (by omega) (by omega) (by omega) (by omega)) rfl ?_
  refine CallV.to _ (a_made (beh t u)) rfl ?_
  exact .refl
theorem beh_le {t u : AF} {n : Nat} (ht : t.le n) (hu : u.le n) : (beh t u).le (5 * n + 7) := by
  obtain ⟨ha, hb, hc, hd, he, hf⟩ := ht
  obtain ⟨ka, kb, kc, kd, ke, kf⟩ := hu
  have m1 := qlen_twos u.a t.a u.c t.b u.e ka ha kc hb ke
  have m2 := qlen_twos u.b t.a u.d t.b u.e kb ha kd hb ke
  have m3 := qlen_twos u.a t.c u.c t.d u.e ka hc kc hd ke
  have m4 := qlen_twos u.b t.c u.d t.d u.e kb hc kd hd ke
  have m5 := qlen_twos u.a t.e u.c t.f u.e ka he kc hf ke
  have m6 := qlen_twos u.b t.e u.d t.f u.f kb he kd hf kf
  refine ⟨?_, ?_, ?_, ?_, ?_, ?_⟩ <;> (show (ofQ _).len ≤ _; rw [ofQ_len])
  · omega
  · omega
  · omega
  · omega
  · exact m5.2
  · exact m6.2

end Go.Gs
/- The other text's transforms. -/
namespace Go.Gs
open Go.Proofs

/-- The six numbers. -/
def coefs (t : AF) : List BR := [t.a, t.b, t.c, t.d, t.e, t.f]
theorem coefs_at {t : AF} {i : Nat} {x : BR} (h : (coefs t)[i]? = some x) : x = t.nth i := by
  have : i < 6 := (List.getElem?_eq_some_iff.1 h).1
  have e : i = 0 ∨ i = 1 ∨ i = 2 ∨ i = 3 ∨ i = 4 ∨ i = 5 := by omega
  rcases e with rfl | rfl | rfl | rfl | rfl | rfl <;> (cases h; rfl)
theorem coefs_le {t : AF} {n : Nat} (h : t.le n) : ∀ i, (t.nth i).len ≤ n := fun i => by
  obtain ⟨h1, h2, h3, h4, h5, h6⟩ := h
  unfold AF.nth; split <;> assumption

set_option maxRecDepth 100000 in
theorem r12_coefs (t : AF) : CallsG Tryz.prog 256 [.agg (afE t)] [] (.sl brE (coefs t)) [] := by
  refine calls_to tok mix Tryz.func256 rfl rfl rfl ?_
  refine ⟨BR, brE, coefs t, rfl, Ob.mk ⟨rfl, by decide, by decide, by decide, fun x _ => ⟨rfl, rfl, rfl⟩⟩ ?_⟩
  exact .refl

set_option maxRecDepth 100000 in
theorem r12_valid (t : AF) (ht : t.le 100000000) : CallsG Tryz.prog 200 [.agg (afE t)] [] (pr t.ok) [] := by
  refine calls_to tok mix Tryz.func200 rfl rfl rfl ?_
  refine CallV.to _ (r12_coefs t) rfl ?_
  refine ⟨Nat, fun i => ⟨[(4, i64 i), (3, .sl brE (coefs t))], [], 1, 19, 0⟩, fun i => i ≤ 6 ∧ okI t i, fun i => 6 - i, 0, ⟨Nat.zero_le _, trivial⟩, ?_, ?_⟩
  · exact sub_of [] rfl rfl rfl ⟨rfl, rfl, trivial⟩ trivial
  rintro i ⟨h1, h2⟩
  intro hl
  have hl6 : (coefs t).length = 6 := rfl
  refine Br.mk (fun h3 => ?_) (fun h3 => ?_)
  · refine Ob.mk ⟨by omega, by omega⟩ ?_
    intro x hx
    have hx : (coefs t)[i]? = some x := hx
    have hx := coefs_at hx
    subst hx
    refine CallV.to _ (r3_bitlen (t.nth i) (coefs_le ht i)) rfl ?_
    refine Br.mk (fun h4 => ?_) (fun h4 => ?_)
    · refine LE_false fun h => ?_
      have e : i = 0 ∨ i = 1 ∨ i = 2 ∨ i = 3 ∨ i = 4 ∨ i = 5 := by omega
      simp only [AF.ok, okI] at h
      rcases e with rfl | rfl | rfl | rfl | rfl | rfl <;> omega
    · refine Ar.fit (by omega) ?_
      exact ⟨i + 1, ⟨by omega, h2, by omega⟩, sub_of [] rfl rfl rfl ⟨rfl, rfl, trivial⟩ trivial, by dsimp only; omega⟩
  · have : i = 6 := by omega
    subst this
    exact LE_true h2

theorem r12_dot (a b c d : BR) (ha : a.len ≤ 10000000) (hb : b.len ≤ 10000000) (hc : c.len ≤ 10000000) (hd : d.len ≤ 10000000) :
    CallsG Tryz.prog 206 [.agg (brE a), .agg (brE b), .agg (brE c), .agg (brE d)] [] (.agg (brE (ofQ (a.v * b.v + c.v * d.v)))) [] := by
  have l1 := qlen_v a
  have l2 := qlen_v b
  have l3 := qlen_v c
  have l4 := qlen_v d
  have m1 := qlen_mul a.v b.v
  have m2 := qlen_mul c.v d.v
  refine calls_to tok mix Tryz.func206 rfl rfl rfl ?_
  refine Dr.mk (by decide +kernel) ?_
  refine CallV.to _ (r3_mul a b (by omega) (by omega)) rfl ?_
  refine CallV.to _ (r3_mul c d (by omega) (by omega)) rfl ?_
  refine CallV.to _ (r3_add (ofQ (a.v * b.v)) (ofQ (c.v * d.v)) (by rw [ofQ_len]; omega) (by rw [ofQ_len]; omega)) rfl ?_
  rw [ofQ_v, ofQ_v]
  exact .refl

set_option maxRecDepth 100000 in
set_option maxHeartbeats 4000000 in
theorem r12_exact (t : AF) (x y : BR) (ht : t.le 5000000) (hx : x.len ≤ 5000000) (hy : y.len ≤ 5000000) :
    CallsG Tryz.prog 148 [.agg (afE t), .agg (brE x), .agg (brE y)] [] (.tup [.agg (brE (ofQ (applX t x.v y.v))), .agg (brE (ofQ (applY t x.v y.v)))]) [] := by
  obtain ⟨ha, hb, hc, hd, he, hf⟩ := ht
  have m1 := qlen_twos t.a x t.c y t.e ha hx hc hy he
  have m2 := qlen_twos t.b x t.d y t.f hb hx hd hy hf
  refine calls_to tok mix Tryz.func148 rfl rfl rfl ?_
  refine Dr.mk (by decide +kernel) ?_
  refine CallV.to _ (r12_dot t.a x t.c y (by omega) (by omega) (by omega) (by omega)) rfl ?_
  refine CallV.to _ (r3_add (ofQ (t.a.v * x.v + t.c.v * y.v)) t.e (by rw [ofQ_len]; omega) (by omega)) rfl ?_
  refine CallV.to _ (r12_dot t.b x t.d y (by omega) (by omega) (by omega) (by omega)) rfl ?_
  refine CallV.to _ (r3_add (ofQ (t.b.v * x.v + t.d.v * y.v)) t.f (by rw [ofQ_len]; omega) (by omega)) rfl ?_
  rw [ofQ_v, ofQ_v]
  exact .refl

end Go.Gs
