/- Paths mirrored, both texts. -/
import Derived.Test.YtlhelkkfjniioaaPK
namespace Go.Gs
open Go.Proofs

def flipP (b : Bool) (lo hi p : Pt) : Pt := match b with
  | true => ⟨p.x, lo.y + hi.y - p.y⟩
  | false => ⟨lo.x + hi.x - p.x, p.y⟩
def part (f : Pt → Pt) (j : Nat) (s : Sg) : Sg := ⟨s.v, if 1 ≤ j then f s.a else s.a, if 2 ≤ j then f s.b else s.b, if 3 ≤ j then f s.c else s.c⟩
def flipS (f : Pt → Pt) (s : Sg) : Sg := part f (nm s.v).toNat s
def flipL (b : Bool) (l : List Sg) : List Sg := l.map (flipS (flipP b (bnd mnP (allPts l)) (bnd mxP (allPts l))))
def flp (b : Bool) (l : List Sg) : List Sg × Int := if valid l then (flipL b l, 0) else ([], 10)

theorem part_zero (f : Pt → Pt) (s : Sg) : part f 0 s = s := rfl
theorem pts_ok {l : List Sg} (h : valid l) : ∀ p ∈ allPts l, ptOK p := fun p hp => by
  obtain ⟨s, hs, hp⟩ := List.mem_flatMap.1 hp
  have hf : fits s := by
    have e := subs_flat l
    rw [← e] at hs
    obtain ⟨g, hg, hsg⟩ := List.mem_flatten.1 hs
    obtain ⟨k, m, mid, _, _, g3, _⟩ := subs_grp h g hg
    exact g3 s hsg
  have hp := List.mem_of_mem_take hp
  simp only [List.mem_cons, List.not_mem_nil, or_false] at hp
  rcases hp with rfl | rfl | rfl
  · exact hf.1.1
  · exact hf.2.1.1
  · exact hf.2.2.1
theorem seg_fits {l : List Sg} (h : valid l) {s : Sg} (hs : s ∈ l) : fits s := by
  have e := subs_flat l
  rw [← e] at hs
  obtain ⟨g, hg, hsg⟩ := List.mem_flatten.1 hs
  obtain ⟨k, m, mid, _, _, g3, _⟩ := subs_grp h g hg
  exact g3 s hsg
theorem fold_ok {f : Pt → Pt → Pt} (hf : ∀ p q, ptOK p → ptOK q → ptOK (f p q)) : ∀ (q : List Pt) (p : Pt), ptOK p → (∀ r ∈ q, ptOK r) → ptOK (q.foldl f p)
  | [], _, hp, _ => hp
  | a :: q, p, hp, h => fold_ok hf q (f p a) (hf p a hp (h a (.head _))) fun r hr => h r (.tail _ hr)
theorem bnd_ok {f : Pt → Pt → Pt} (hf : ∀ p q, ptOK p → ptOK q → ptOK (f p q)) {q : List Pt} (h : ∀ r ∈ q, ptOK r) : ptOK (bnd f q) := by
  cases q with
  | nil => exact zp_ok
  | cons a r => exact fold_ok hf (a :: r) a (h a (.head _)) h
theorem mn_ok {p q : Pt} (h1 : ptOK p) (h2 : ptOK q) : ptOK (mnP p q) := by
  unfold ptOK mnP at *; dsimp only; omega
theorem mx_ok {p q : Pt} (h1 : ptOK p) (h2 : ptOK q) : ptOK (mxP p q) := by
  unfold ptOK mxP at *; dsimp only; omega

def us (v : Int) : Int := max (nm v) 0
theorem c_used (v : Int) : CallsG Try.prog 56 [i64 v] [] (i64 (us v)) [] := by
  refine calls_to tok mix Try.func56 rfl rfl rfl ?_
  refine Br.mk (fun h1 => ?_) (fun h1 => ?_)
  · refine Br.mk (fun _ => ?_) (fun h => absurd h1 h)
    exact LE_int (by rw [h1]; decide)
  refine Br.mk (fun h2 => LE_int (by rw [h2]; decide)) (fun h2 => ?_)
  refine Br.mk (fun h3 => LE_int (by rw [h3]; decide)) (fun h3 => ?_)
  refine Br.mk (fun h4 => LE_int (by rw [h4]; decide)) (fun h4 => ?_)
  refine LE_int ?_
  unfold us nm
  rw [if_neg h1, if_neg h2, if_neg h3, if_neg h4]
  split <;> rfl

def flipTo (F : Sg → Sg) (l : List Sg) (i : Nat) : List Sg := (l.take i).map F ++ l.drop i
theorem flipTo_len (F : Sg → Sg) (l : List Sg) (i : Nat) : (flipTo F l i).length = l.length := by unfold flipTo; simp; omega
theorem flipTo_at {F : Sg → Sg} {l : List Sg} {i : Nat} {x : Sg} (h : l[i]? = some x) : (flipTo F l i)[i]? = some x := by
  have hi := (List.getElem?_eq_some_iff.1 h).1
  unfold flipTo
  rw [List.getElem?_append_right (by simp; omega)]
  simp only [List.length_map, List.length_take, List.getElem?_drop]
  rw [← h]; congr 1; omega
theorem set_same {α : Type} {l : List α} {i : Nat} {x : α} (h : l[i]? = some x) : l.set i x = l := by
  refine List.ext_getElem? fun j => ?_
  rw [List.getElem?_set]
  split
  · rename_i e; subst e
    rw [if_pos (List.getElem?_eq_some_iff.1 h).1, h]
  · rfl
theorem flipTo_next {F : Sg → Sg} {l : List Sg} {i : Nat} {x : Sg} (h : l[i]? = some x) : (flipTo F l i).set i (F x) = flipTo F l (i + 1) := by
  have hi := (List.getElem?_eq_some_iff.1 h).1
  unfold flipTo
  rw [List.set_append_right _ _ (by simp; omega), drop_at h, List.take_add_one, h]
  have : i - ((l.take i).map F).length = 0 := by simp; omega
  rw [this]; simp
theorem at_set {α : Type} {L : List α} {i : Nat} {x z : α} (hi : i < L.length) (h : (L.set i x)[i]? = some z) : z = x := by
  rw [List.getElem?_set_self hi] at h; cases h; rfl

def ptrs (i : Nat) : List (List SV) := [[.eloc 3 7 i 1], [.eloc 3 7 i 3], [.eloc 3 7 i 5]]
theorem ptr_ren {i n q : Nat} {x : List SV} {a : Nat} (hx : ((ptrs i).take n)[q]? = some x) : ren.rens [(0, some 0), (1, some 1), (2, some 2), (3, some 3), (4, some a)] x = some x := by
  have := List.mem_of_mem_take (List.mem_of_getElem? hx)
  unfold ptrs at this
  simp only [List.mem_cons, List.not_mem_nil, or_false] at this
  rcases this with rfl | rfl | rfl <;> rfl

theorem c_mirror_true (lo hi p : Pt) (h1 : ptOK lo) (h2 : ptOK hi) (h3 : ptOK p) : CallsG Try.prog 54 [.agg (ptE p), .ptr [bl true], .ptr (ptE lo), .ptr (ptE hi)] [] (.agg (ptE (flipP true lo hi p))) [] := by
  refine calls_to tok mix Try.func54 rfl rfl rfl ?_
  unfold ptOK at h1 h2 h3
  refine Ar.fit (by omega) ?_
  refine Ar.fit (by omega) ?_
  exact .refl

theorem c_mirror_false (lo hi p : Pt) (h1 : ptOK lo) (h2 : ptOK hi) (h3 : ptOK p) : CallsG Try.prog 54 [.agg (ptE p), .ptr [bl false], .ptr (ptE lo), .ptr (ptE hi)] [] (.agg (ptE (flipP false lo hi p))) [] := by
  refine calls_to tok mix Try.func54 rfl rfl rfl ?_
  unfold ptOK at h1 h2 h3
  refine Ar.fit (by omega) ?_
  refine Ar.fit (by omega) ?_
  exact .refl

set_option maxRecDepth 100000 in
set_option maxHeartbeats 2000000 in
theorem c_flip_true (l : List Sg) : CallsG Try.prog 27 [.sl sgE l, bl true] [] (lstR (flp true l)) [(0, .arr 62 sgE 7 (flp true l).1)] := by
  generalize hc : flp true l = c
  refine calls_own tok mix Try.func27 rfl rfl rfl ?_
  refine CallV.to _ (c_valid l) rfl ?_
  refine Br.mk (fun h => ?_) (fun h => ?_)
  · have : c = ([], 10) := by rw [← hc]; exact if_neg h
    subst this
    exact ⟨none, take_tup (.cons (.nil rfl) (.cons (take_int rfl) .nil)), rfl⟩
  have h := Decidable.not_not.1 h
  have hc' : c = (flipL true l, 0) := by rw [← hc]; exact if_pos h
  subst hc'
  clear hc
  have hvl := valid_len h
  have hlo := bnd_ok (f := mnP) (fun _ _ => mn_ok) (pts_ok h)
  have hhi := bnd_ok (f := mxP) (fun _ _ => mx_ok) (pts_ok h)
  have cb := c_bounds l
  unfold bndR at cb
  rw [show loOf l = bnd mnP (allPts l) from if_pos h, show hiOf l = bnd mxP (allPts l) from if_pos h] at cb
  unfold flipL
  generalize bnd mnP (allPts l) = lo at *
  generalize bnd mxP (allPts l) = hi at *
  refine CallV.to _ cb rfl ?_
  refine CallV.fresh _ _ (c_cloneS l hvl) rfl (sg_flat _) (.inl rfl) ?_
  intro _
  generalize hf : flipP true lo hi = f
  refine ⟨Nat, fun i => ⟨[(29, i64 i), (28, i64 l.length), (10, .own 3), (9, .fn 54 [.loc 0 0, .loc 1 0, .loc 2 0])], [(3, .arr 62 sgE 7 (flipTo (flipS f) l i)), (2, .box 26 (ptE hi)), (1, .box 26 (ptE lo)), (0, .box 4 [bl true])], 4, 68, 0⟩, fun i => i ≤ l.length, fun i => l.length - i, 0, Nat.zero_le _,
    sub_of [(0, some 0), (1, some 1), (2, some 2), (3, some 3)] rfl rfl rfl ⟨rfl, rfl, rfl, rfl, trivial⟩ ⟨rfl, rfl, rfl, rfl, trivial⟩, ?_⟩
  rintro i hil0
  have hil0 : i ≤ l.length := hil0
  have hfl := flipTo_len (flipS f) l i
  refine Br.mk (fun g1 => ?_) (fun g1 => ?_)
  · have g1 : (i : Int) < l.length := g1
    have hx := List.getElem?_eq_getElem (show i < l.length by omega)
    generalize l[i]'(by omega) = x at hx
    have hfx := flipTo_at (F := flipS f) hx
    have hxf := seg_fits h (List.mem_of_getElem? hx)
    obtain ⟨⟨x1, _⟩, ⟨x2, _⟩, ⟨x3, _⟩⟩ := hxf
    refine Dr.mk (by decide +kernel) ?_
    refine Ob.mk ⟨by omega, by omega⟩ ?_
    refine Ob.mk ⟨by omega, by omega⟩ ?_
    refine Ob.mk ⟨by omega, by omega⟩ ?_
    refine ⟨ptrs i, rfl, Ob.mk ⟨rfl, by decide, by decide, by decide, fun z hz => by
      unfold ptrs at hz
      simp only [List.mem_cons, List.not_mem_nil, or_false] at hz
      rcases hz with rfl | rfl | rfl <;> rfl⟩ ?_⟩
    refine Ob.mk ⟨by omega, by omega⟩ ?_
    refine Ob.mk ⟨by omega, by omega⟩ ?_
    intro z hz
    have hz : (flipTo (flipS f) l i)[i]? = some z := hz
    rw [hfx] at hz; cases hz
    have hnr := nm_range x.v
    refine CallV.to _ (c_used x.v) rfl ?_
    have hu : us x.v = max (nm x.v) 0 := rfl
    refine Ob.mk ⟨rfl, by omega, by show us x.v ≤ 3; omega⟩ ?_
    intro _
    have hul : ((ptrs i).take (us x.v).toNat).length = (us x.v).toNat := by rw [List.length_take]; show min _ 3 = _; omega
    refine ⟨Nat, fun j => ⟨[(54, i64 j), (53, i64 ((ptrs i).take (us x.v).toNat).length), (52, .own 4), (29, i64 i), (28, i64 l.length), (10, .own 3), (9, .fn 54 [.loc 0 0, .loc 1 0, .loc 2 0])], [(4, .garr 75 1 ((ptrs i).take (us x.v).toNat)), (3, .arr 62 sgE 7 ((flipTo (flipS f) l i).set i (part f j x))), (2, .box 26 (ptE hi)), (1, .box 26 (ptE lo)), (0, .box 4 [bl true])], 5, 68, 0⟩,
      fun j => (j : Int) ≤ us x.v, fun j => 3 - j, 0, by show ((0 : Nat) : Int) ≤ us x.v; omega,
      sub_of [(0, some 0), (1, some 1), (2, some 2), (3, some 3), (4, some 5)] rfl rfl rfl ⟨rfl, rfl, rfl, rfl, rfl, rfl, rfl, trivial⟩ ⟨⟨_, rfl, rfl, fun q y hy => ⟨y, hy, ptr_ren hy⟩⟩, congrArg (fun q => some (Mem.arr 62 sgE 7 q)) (set_same hfx).symm, rfl, rfl, rfl, trivial⟩, ?_⟩
    rintro j hj
    have hj : (j : Int) ≤ us x.v := hj
    have hsl : ((flipTo (flipS f) l i).set i (part f j x)).length = l.length := by rw [List.length_set, hfl]
    refine Br.mk (fun g2 => ?_) (fun g2 => ?_)
    · have g2 : (j : Int) < ((ptrs i).take (us x.v).toNat).length := g2
      have e : j = 0 ∨ j = 1 ∨ j = 2 := by omega
      rcases e with rfl | rfl | rfl
      · refine Ob.mk ⟨by decide, g2⟩ ?_
        refine Ob.mk ⟨by decide, g2⟩ ?_
        intro y hy
        have hy : ((ptrs i).take (us x.v).toNat)[0]? = some y := hy
        rw [List.getElem?_take, if_pos (by omega)] at hy
        have hy : some [SV.eloc 3 7 i 1] = some y := hy
        cases hy
        refine Ob.mk ⟨by omega, by omega⟩ ?_
        intro z hz
        obtain rfl := at_set (i := i) (by omega) hz
        have cm := c_mirror_true lo hi x.a hlo hhi x1
        rw [hf] at cm
        refine CallV.to _ cm rfl ?_
        refine Ob.mk ⟨by omega, by omega⟩ ?_
        intro z hz
        obtain rfl := at_set (i := i) (by omega) hz
        refine ⟨part f 1 x, rfl, ?_⟩
        refine Ar.fit (by decide) ?_
        exact ⟨1, by show ((1 : Nat) : Int) ≤ us x.v; omega, sub_of [(0, some 0), (1, some 1), (2, some 2), (3, some 3), (4, some 4)] rfl rfl rfl ⟨rfl, rfl, rfl, rfl, rfl, rfl, rfl, trivial⟩ ⟨⟨_, rfl, rfl, fun q y hy => ⟨y, hy, ptr_ren hy⟩⟩, congrArg (fun q => some (Mem.arr 62 sgE 7 q)) (List.set_set ..), rfl, rfl, rfl, trivial⟩, by decide⟩
      · refine Ob.mk ⟨by decide, g2⟩ ?_
        refine Ob.mk ⟨by decide, g2⟩ ?_
        intro y hy
        have hy : ((ptrs i).take (us x.v).toNat)[1]? = some y := hy
        rw [List.getElem?_take, if_pos (by omega)] at hy
        have hy : some [SV.eloc 3 7 i 3] = some y := hy
        cases hy
        refine Ob.mk ⟨by omega, by omega⟩ ?_
        intro z hz
        obtain rfl := at_set (i := i) (by omega) hz
        have cm := c_mirror_true lo hi x.b hlo hhi x2
        rw [hf] at cm
        refine CallV.to _ cm rfl ?_
        refine Ob.mk ⟨by omega, by omega⟩ ?_
        intro z hz
        obtain rfl := at_set (i := i) (by omega) hz
        refine ⟨part f 2 x, rfl, ?_⟩
        refine Ar.fit (by decide) ?_
        exact ⟨2, by show ((2 : Nat) : Int) ≤ us x.v; omega, sub_of [(0, some 0), (1, some 1), (2, some 2), (3, some 3), (4, some 4)] rfl rfl rfl ⟨rfl, rfl, rfl, rfl, rfl, rfl, rfl, trivial⟩ ⟨⟨_, rfl, rfl, fun q y hy => ⟨y, hy, ptr_ren hy⟩⟩, congrArg (fun q => some (Mem.arr 62 sgE 7 q)) (List.set_set ..), rfl, rfl, rfl, trivial⟩, by decide⟩
      · refine Ob.mk ⟨by decide, g2⟩ ?_
        refine Ob.mk ⟨by decide, g2⟩ ?_
        intro y hy
        have hy : ((ptrs i).take (us x.v).toNat)[2]? = some y := hy
        rw [List.getElem?_take, if_pos (by omega)] at hy
        have hy : some [SV.eloc 3 7 i 5] = some y := hy
        cases hy
        refine Ob.mk ⟨by omega, by omega⟩ ?_
        intro z hz
        obtain rfl := at_set (i := i) (by omega) hz
        have cm := c_mirror_true lo hi x.c hlo hhi x3
        rw [hf] at cm
        refine CallV.to _ cm rfl ?_
        refine Ob.mk ⟨by omega, by omega⟩ ?_
        intro z hz
        obtain rfl := at_set (i := i) (by omega) hz
        refine ⟨part f 3 x, rfl, ?_⟩
        refine Ar.fit (by decide) ?_
        exact ⟨3, by show ((3 : Nat) : Int) ≤ us x.v; omega, sub_of [(0, some 0), (1, some 1), (2, some 2), (3, some 3), (4, some 4)] rfl rfl rfl ⟨rfl, rfl, rfl, rfl, rfl, rfl, rfl, trivial⟩ ⟨⟨_, rfl, rfl, fun q y hy => ⟨y, hy, ptr_ren hy⟩⟩, congrArg (fun q => some (Mem.arr 62 sgE 7 q)) (List.set_set ..), rfl, rfl, rfl, trivial⟩, by decide⟩
    · have g2 : ¬ (j : Int) < ((ptrs i).take (us x.v).toNat).length := g2
      have hju : j = (nm x.v).toNat := by omega
      refine Ar.fit (by omega) ?_
      exact ⟨i + 1, by show i + 1 ≤ _; omega, sub_of [(0, some 0), (1, some 1), (2, some 2), (3, some 3)] rfl rfl rfl ⟨rfl, rfl, rfl, rfl, trivial⟩ ⟨congrArg (fun q => some (Mem.arr 62 sgE 7 q)) (by rw [hju]; exact flipTo_next hx), rfl, rfl, rfl, trivial⟩, by dsimp only; omega⟩
  · have hil : i = l.length := by omega
    exact ⟨some 3, take_tup (.cons (.own _ rfl) (.cons (take_int rfl) .nil)), congrArg (fun q => some (Mem.arr 62 sgE 7 q)) (by unfold flipTo; rw [hil, List.take_length, List.drop_length, List.append_nil]), fun _ _ => rfl⟩

set_option maxRecDepth 100000 in
set_option maxHeartbeats 2000000 in
theorem c_flip_false (l : List Sg) : CallsG Try.prog 27 [.sl sgE l, bl false] [] (lstR (flp false l)) [(0, .arr 62 sgE 7 (flp false l).1)] := by
  generalize hc : flp false l = c
  refine calls_own tok mix Try.func27 rfl rfl rfl ?_
  refine CallV.to _ (c_valid l) rfl ?_
  refine Br.mk (fun h => ?_) (fun h => ?_)
  · have : c = ([], 10) := by rw [← hc]; exact if_neg h
    subst this
    exact ⟨none, take_tup (.cons (.nil rfl) (.cons (take_int rfl) .nil)), rfl⟩
  have h := Decidable.not_not.1 h
  have hc' : c = (flipL false l, 0) := by rw [← hc]; exact if_pos h
  subst hc'
  clear hc
  have hvl := valid_len h
  have hlo := bnd_ok (f := mnP) (fun _ _ => mn_ok) (pts_ok h)
  have hhi := bnd_ok (f := mxP) (fun _ _ => mx_ok) (pts_ok h)
  have cb := c_bounds l
  unfold bndR at cb
  rw [show loOf l = bnd mnP (allPts l) from if_pos h, show hiOf l = bnd mxP (allPts l) from if_pos h] at cb
  unfold flipL
  generalize bnd mnP (allPts l) = lo at *
  generalize bnd mxP (allPts l) = hi at *
  refine CallV.to _ cb rfl ?_
  refine CallV.fresh _ _ (c_cloneS l hvl) rfl (sg_flat _) (.inl rfl) ?_
  intro _
  generalize hf : flipP false lo hi = f
  refine ⟨Nat, fun i => ⟨[(29, i64 i), (28, i64 l.length), (10, .own 3), (9, .fn 54 [.loc 0 0, .loc 1 0, .loc 2 0])], [(3, .arr 62 sgE 7 (flipTo (flipS f) l i)), (2, .box 26 (ptE hi)), (1, .box 26 (ptE lo)), (0, .box 4 [bl false])], 4, 68, 0⟩, fun i => i ≤ l.length, fun i => l.length - i, 0, Nat.zero_le _,
    sub_of [(0, some 0), (1, some 1), (2, some 2), (3, some 3)] rfl rfl rfl ⟨rfl, rfl, rfl, rfl, trivial⟩ ⟨rfl, rfl, rfl, rfl, trivial⟩, ?_⟩
  rintro i hil0
  have hil0 : i ≤ l.length := hil0
  have hfl := flipTo_len (flipS f) l i
  refine Br.mk (fun g1 => ?_) (fun g1 => ?_)
  · have g1 : (i : Int) < l.length := g1
    have hx := List.getElem?_eq_getElem (show i < l.length by omega)
    generalize l[i]'(by omega) = x at hx
    have hfx := flipTo_at (F := flipS f) hx
    have hxf := seg_fits h (List.mem_of_getElem? hx)
    obtain ⟨⟨x1, _⟩, ⟨x2, _⟩, ⟨x3, _⟩⟩ := hxf
    refine Dr.mk (by decide +kernel) ?_
    refine Ob.mk ⟨by omega, by omega⟩ ?_
    refine Ob.mk ⟨by omega, by omega⟩ ?_
    refine Ob.mk ⟨by omega, by omega⟩ ?_
    refine ⟨ptrs i, rfl, Ob.mk ⟨rfl, by decide, by decide, by decide, fun z hz => by
      unfold ptrs at hz
      simp only [List.mem_cons, List.not_mem_nil, or_false] at hz
      rcases hz with rfl | rfl | rfl <;> rfl⟩ ?_⟩
    refine Ob.mk ⟨by omega, by omega⟩ ?_
    refine Ob.mk ⟨by omega, by omega⟩ ?_
    intro z hz
    have hz : (flipTo (flipS f) l i)[i]? = some z := hz
    rw [hfx] at hz; cases hz
    have hnr := nm_range x.v
    refine CallV.to _ (c_used x.v) rfl ?_
    have hu : us x.v = max (nm x.v) 0 := rfl
    refine Ob.mk ⟨rfl, by omega, by show us x.v ≤ 3; omega⟩ ?_
    intro _
    have hul : ((ptrs i).take (us x.v).toNat).length = (us x.v).toNat := by rw [List.length_take]; show min _ 3 = _; omega
    refine ⟨Nat, fun j => ⟨[(54, i64 j), (53, i64 ((ptrs i).take (us x.v).toNat).length), (52, .own 4), (29, i64 i), (28, i64 l.length), (10, .own 3), (9, .fn 54 [.loc 0 0, .loc 1 0, .loc 2 0])], [(4, .garr 75 1 ((ptrs i).take (us x.v).toNat)), (3, .arr 62 sgE 7 ((flipTo (flipS f) l i).set i (part f j x))), (2, .box 26 (ptE hi)), (1, .box 26 (ptE lo)), (0, .box 4 [bl false])], 5, 68, 0⟩,
      fun j => (j : Int) ≤ us x.v, fun j => 3 - j, 0, by show ((0 : Nat) : Int) ≤ us x.v; omega,
      sub_of [(0, some 0), (1, some 1), (2, some 2), (3, some 3), (4, some 5)] rfl rfl rfl ⟨rfl, rfl, rfl, rfl, rfl, rfl, rfl, trivial⟩ ⟨⟨_, rfl, rfl, fun q y hy => ⟨y, hy, ptr_ren hy⟩⟩, congrArg (fun q => some (Mem.arr 62 sgE 7 q)) (set_same hfx).symm, rfl, rfl, rfl, trivial⟩, ?_⟩
    rintro j hj
    have hj : (j : Int) ≤ us x.v := hj
    have hsl : ((flipTo (flipS f) l i).set i (part f j x)).length = l.length := by rw [List.length_set, hfl]
    refine Br.mk (fun g2 => ?_) (fun g2 => ?_)
    · have g2 : (j : Int) < ((ptrs i).take (us x.v).toNat).length := g2
      have e : j = 0 ∨ j = 1 ∨ j = 2 := by omega
      rcases e with rfl | rfl | rfl
      · refine Ob.mk ⟨by decide, g2⟩ ?_
        refine Ob.mk ⟨by decide, g2⟩ ?_
        intro y hy
        have hy : ((ptrs i).take (us x.v).toNat)[0]? = some y := hy
        rw [List.getElem?_take, if_pos (by omega)] at hy
        have hy : some [SV.eloc 3 7 i 1] = some y := hy
        cases hy
        refine Ob.mk ⟨by omega, by omega⟩ ?_
        intro z hz
        obtain rfl := at_set (i := i) (by omega) hz
        have cm := c_mirror_false lo hi x.a hlo hhi x1
        rw [hf] at cm
        refine CallV.to _ cm rfl ?_
        refine Ob.mk ⟨by omega, by omega⟩ ?_
        intro z hz
        obtain rfl := at_set (i := i) (by omega) hz
        refine ⟨part f 1 x, rfl, ?_⟩
        refine Ar.fit (by decide) ?_
        exact ⟨1, by show ((1 : Nat) : Int) ≤ us x.v; omega, sub_of [(0, some 0), (1, some 1), (2, some 2), (3, some 3), (4, some 4)] rfl rfl rfl ⟨rfl, rfl, rfl, rfl, rfl, rfl, rfl, trivial⟩ ⟨⟨_, rfl, rfl, fun q y hy => ⟨y, hy, ptr_ren hy⟩⟩, congrArg (fun q => some (Mem.arr 62 sgE 7 q)) (List.set_set ..), rfl, rfl, rfl, trivial⟩, by decide⟩
      · refine Ob.mk ⟨by decide, g2⟩ ?_
        refine Ob.mk ⟨by decide, g2⟩ ?_
        intro y hy
        have hy : ((ptrs i).take (us x.v).toNat)[1]? = some y := hy
        rw [List.getElem?_take, if_pos (by omega)] at hy
        have hy : some [SV.eloc 3 7 i 3] = some y := hy
        cases hy
        refine Ob.mk ⟨by omega, by omega⟩ ?_
        intro z hz
        obtain rfl := at_set (i := i) (by omega) hz
        have cm := c_mirror_false lo hi x.b hlo hhi x2
        rw [hf] at cm
        refine CallV.to _ cm rfl ?_
        refine Ob.mk ⟨by omega, by omega⟩ ?_
        intro z hz
        obtain rfl := at_set (i := i) (by omega) hz
        refine ⟨part f 2 x, rfl, ?_⟩
        refine Ar.fit (by decide) ?_
        exact ⟨2, by show ((2 : Nat) : Int) ≤ us x.v; omega, sub_of [(0, some 0), (1, some 1), (2, some 2), (3, some 3), (4, some 4)] rfl rfl rfl ⟨rfl, rfl, rfl, rfl, rfl, rfl, rfl, trivial⟩ ⟨⟨_, rfl, rfl, fun q y hy => ⟨y, hy, ptr_ren hy⟩⟩, congrArg (fun q => some (Mem.arr 62 sgE 7 q)) (List.set_set ..), rfl, rfl, rfl, trivial⟩, by decide⟩
      · refine Ob.mk ⟨by decide, g2⟩ ?_
        refine Ob.mk ⟨by decide, g2⟩ ?_
        intro y hy
        have hy : ((ptrs i).take (us x.v).toNat)[2]? = some y := hy
        rw [List.getElem?_take, if_pos (by omega)] at hy
        have hy : some [SV.eloc 3 7 i 5] = some y := hy
        cases hy
        refine Ob.mk ⟨by omega, by omega⟩ ?_
        intro z hz
        obtain rfl := at_set (i := i) (by omega) hz
        have cm := c_mirror_false lo hi x.c hlo hhi x3
        rw [hf] at cm
        refine CallV.to _ cm rfl ?_
        refine Ob.mk ⟨by omega, by omega⟩ ?_
        intro z hz
        obtain rfl := at_set (i := i) (by omega) hz
        refine ⟨part f 3 x, rfl, ?_⟩
        refine Ar.fit (by decide) ?_
        exact ⟨3, by show ((3 : Nat) : Int) ≤ us x.v; omega, sub_of [(0, some 0), (1, some 1), (2, some 2), (3, some 3), (4, some 4)] rfl rfl rfl ⟨rfl, rfl, rfl, rfl, rfl, rfl, rfl, trivial⟩ ⟨⟨_, rfl, rfl, fun q y hy => ⟨y, hy, ptr_ren hy⟩⟩, congrArg (fun q => some (Mem.arr 62 sgE 7 q)) (List.set_set ..), rfl, rfl, rfl, trivial⟩, by decide⟩
    · have g2 : ¬ (j : Int) < ((ptrs i).take (us x.v).toNat).length := g2
      have hju : j = (nm x.v).toNat := by omega
      refine Ar.fit (by omega) ?_
      exact ⟨i + 1, by show i + 1 ≤ _; omega, sub_of [(0, some 0), (1, some 1), (2, some 2), (3, some 3)] rfl rfl rfl ⟨rfl, rfl, rfl, rfl, trivial⟩ ⟨congrArg (fun q => some (Mem.arr 62 sgE 7 q)) (by rw [hju]; exact flipTo_next hx), rfl, rfl, rfl, trivial⟩, by dsimp only; omega⟩
  · have hil : i = l.length := by omega
    exact ⟨some 3, take_tup (.cons (.own _ rfl) (.cons (take_int rfl) .nil)), congrArg (fun q => some (Mem.arr 62 sgE 7 q)) (by unfold flipTo; rw [hil, List.take_length, List.drop_length, List.append_nil]), fun _ _ => rfl⟩

end Go.Gs
