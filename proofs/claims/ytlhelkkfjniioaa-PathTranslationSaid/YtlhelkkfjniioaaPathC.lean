/- Paths joined; a subpath taken out. -/
import Derived.Test.YtlhelkkfjniioaaPathB
namespace Go.Gs
open Go.Proofs

theorem c_grow (n : Int) (h0 : 0 ≤ n) (h1 : n ≤ 600) : CallsG Try.prog 84 [.val (.slice none 0 0), i64 n] [] (.own 0) [(0, .arr 62 sgE 7 [])] := by
  refine calls_own tok mix Try.func84 rfl rfl rfl ?_
  refine Br.mk (fun h => absurd h (by omega)) (fun _ => ?_)
  refine Ar.fit (by decide) ?_
  refine Ar.fit (by omega) ?_
  refine Br.mk (fun h => ?_) (fun h => ?_)
  · refine Ob.mk ⟨rfl, rfl, rfl⟩ ?_
    refine ⟨Sg, sgE, ⟨0, zp, zp, zp⟩, rfl, Ob.mk ⟨by decide, h, (by show _ * (56 : Int) ≤ _; omega), by omega⟩ ?_⟩
    refine Sl.keep (Ob.mk ⟨rfl, Int.le_refl _, by omega⟩ ?_)
    exact ⟨some 1, .own _ rfl, rfl, fun _ _ => rfl⟩
  · exact ⟨none, .nil rfl, rfl⟩

def sizes (a b : List Sg) (i : Nat) : Int := if i = 0 then 0 else if i = 1 then a.length else a.length + b.length
def joined (a b : List Sg) (i : Nat) : List Sg := if i = 0 then [] else if i = 1 then a else a ++ b

theorem c_concat (a b : List Sg) (ha : a.length ≤ 256) (hb : b.length ≤ 256) : CallsG Try.prog 59 [.sl slE [a, b]] [] (.own 0) [(0, .arr 62 sgE 7 (a ++ b))] := by
  refine calls_own tok mix Try.func59 rfl rfl rfl ?_
  intro _
  refine ⟨Nat, fun i => ⟨[(11, i64 i), (10, i64 2), (9, .sl slE [a, b]), (3, i64 (sizes a b i)), (0, .sl slE [a, b])], [], 0, 36, 0⟩, fun i => i ≤ 2, fun i => 2 - i, 0, by decide, sub_of [] rfl rfl rfl ⟨rfl, rfl, rfl, rfl, rfl, trivial⟩ trivial, ?_⟩
  rintro i hi
  have hi : i ≤ 2 := hi
  have e : i = 0 ∨ i = 1 ∨ i = 2 := by omega
  rcases e with rfl | rfl | rfl
  · refine Br.mk (fun _ => ?_) (fun h => absurd (by decide) h)
    refine Ob.mk ⟨by decide, by show (0 : Int) < ((2 : Nat) : Int); decide⟩ ?_
    intro g hg
    have hg : some a = some g := hg
    cases hg
    intro _
    have hs : sizes a b 0 = 0 := rfl
    refine Ar.fit (by omega) ?_
    refine Br.mk (fun h => absurd h (by omega)) (fun _ => ?_)
    refine Ar.fit (by decide) ?_
    exact ⟨1, by decide, sub_of [] rfl rfl rfl ⟨rfl, rfl, rfl, congrArg (fun n => some (i64 n)) (show sizes a b 0 + (a.length : Int) = a.length by omega), rfl, trivial⟩ trivial, by decide⟩
  · refine Br.mk (fun _ => ?_) (fun h => absurd (by decide) h)
    refine Ob.mk ⟨by decide, by show (1 : Int) < ((2 : Nat) : Int); decide⟩ ?_
    intro g hg
    have hg : some b = some g := hg
    cases hg
    intro _
    have hs : sizes a b 1 = a.length := rfl
    refine Ar.fit (by omega) ?_
    refine Br.mk (fun h => absurd h (by omega)) (fun _ => ?_)
    refine Ar.fit (by decide) ?_
    exact ⟨2, by decide, sub_of [] rfl rfl rfl ⟨rfl, rfl, rfl, congrArg (fun n => some (i64 n)) (show sizes a b 1 + (b.length : Int) = a.length + b.length by omega), rfl, trivial⟩ trivial, by decide⟩
  · refine Br.mk (fun h => absurd h (by decide)) (fun _ => ?_)
    refine CallV.fresh _ _ (c_grow (sizes a b 2) (by show 0 ≤ (a.length : Int) + b.length; omega) (by show (a.length : Int) + b.length ≤ 600; omega)) rfl (sg_flat _) (.inl rfl) ?_
    intro _
    refine ⟨Nat, fun i => ⟨[(27, i64 i), (26, i64 2), (25, .sl slE [a, b]), (6, .own 0)], [(0, .arr 62 sgE 7 (joined a b i))], 1, 36, 0⟩, fun i => i ≤ 2, fun i => 2 - i, 0, by decide, sub_of [(0, some 0)] rfl rfl rfl ⟨rfl, rfl, rfl, rfl, trivial⟩ ⟨rfl, trivial⟩, ?_⟩
    rintro i hi
    have hi : i ≤ 2 := hi
    have e : i = 0 ∨ i = 1 ∨ i = 2 := by omega
    rcases e with rfl | rfl | rfl
    · refine Br.mk (fun _ => ?_) (fun h => absurd (by decide) h)
      refine Ob.mk ⟨by decide, by show (0 : Int) < ((2 : Nat) : Int); decide⟩ ?_
      intro g hg
      have hg : some a = some g := hg
      cases hg
      have hs : (joined a b 0).length = 0 := rfl
      refine ⟨a, rfl, Ob.mk ⟨(by show _ * (56 : Int) ≤ _; omega), (by omega), by decide, fun _ _ => rfl⟩ ?_⟩
      refine Ar.fit (by decide) ?_
      exact ⟨1, by decide, sub_of [(0, some 1)] rfl rfl rfl ⟨rfl, rfl, rfl, rfl, trivial⟩ ⟨congrArg (fun q => some (Mem.arr 62 sgE 7 q)) (show joined a b 0 ++ a = joined a b 1 from rfl), trivial⟩, by decide⟩
    · refine Br.mk (fun _ => ?_) (fun h => absurd (by decide) h)
      refine Ob.mk ⟨by decide, by show (1 : Int) < ((2 : Nat) : Int); decide⟩ ?_
      intro g hg
      have hg : some b = some g := hg
      cases hg
      have hs : (joined a b 1).length = a.length := rfl
      refine ⟨b, rfl, Ob.mk ⟨(by show _ * (56 : Int) ≤ _; omega), (by omega), by decide, fun _ _ => rfl⟩ ?_⟩
      refine Ar.fit (by decide) ?_
      exact ⟨2, by decide, sub_of [(0, some 1)] rfl rfl rfl ⟨rfl, rfl, rfl, rfl, trivial⟩ ⟨congrArg (fun q => some (Mem.arr 62 sgE 7 q)) (show joined a b 1 ++ b = joined a b 2 from rfl), trivial⟩, by decide⟩
    · refine Br.mk (fun h => absurd h (by decide)) (fun _ => ?_)
      exact ⟨some 0, .own _ rfl, rfl, fun _ _ => rfl⟩

def app (a b : List Sg) : List Sg × Int := if ¬ (valid a ∧ valid b) then ([], 10) else if 256 < a.length + b.length then ([], 5) else (a ++ b, 0)

theorem c_append (a b : List Sg) : CallsG Try.prog 29 [.sl sgE a, .sl sgE b] [] (lstR (app a b)) [(0, .arr 62 sgE 7 (app a b).1)] := by
  generalize hc : app a b = c
  refine calls_own tok mix Try.func29 rfl rfl rfl ?_
  have bad : ∀ {e : Int}, c = ([], e) → ∃ k, Take k (.tup [.val (.slice none 0 0), i64 e]) (lstR c) ∧ takeM ([] : List (Nat × Mem)) k (.arr 62 sgE 7 c.1) := fun h => by
    subst h
    exact ⟨none, take_tup (.cons (.nil rfl) (.cons (take_int rfl) .nil)), rfl⟩
  refine CallV.to _ (c_valid a) rfl ?_
  refine Br.mk (fun h => bad (by rw [← hc]; unfold app; rw [if_pos (fun k => h k.1)])) (fun h => ?_)
  have h := Decidable.not_not.1 h
  refine CallV.to _ (c_valid b) rfl ?_
  refine Br.mk (fun h2 => bad (by rw [← hc]; unfold app; rw [if_pos (fun k => h2 k.2)])) (fun h2 => ?_)
  have h2 := Decidable.not_not.1 h2
  have ha := valid_len h
  have hb := valid_len h2
  intro _ _
  refine Ar.fit (by omega) ?_
  refine Br.mk (fun h3 => bad (by rw [← hc]; unfold app; rw [if_neg (fun k => k ⟨h, h2⟩), if_pos (by omega)])) (fun h3 => ?_)
  have hc' : c = (a ++ b, 0) := by rw [← hc]; unfold app; rw [if_neg (fun k => k ⟨h, h2⟩), if_neg (by omega)]
  clear bad hc
  subst hc'
  refine ⟨List Sg, slE, [a, b], rfl, Ob.mk ⟨rfl, by decide, by decide, by decide, fun x _ => ⟨rfl, rfl, rfl⟩⟩ ?_⟩
  refine CallV.fresh _ _ (c_concat a b ha hb) rfl (sg_flat _) (.inr (sg_scalar _)) ?_
  exact ⟨some 1, take_tup (.cons (.own _ rfl) (.cons (take_int rfl) .nil)), rfl, fun _ _ => rfl⟩

theorem c_append' (a b : List Sg) : CallsG Try.prog 30 [.sl sgE a, .sl sgE b] [] (lstR (app a b)) [(0, .arr 62 sgE 7 (app a b).1)] := by
  generalize hc : app a b = c
  refine calls_own tok mix Try.func30 rfl rfl rfl ?_
  have bad : ∀ {e : Int}, c = ([], e) → ∃ k, Take k (.tup [.val (.slice none 0 0), i64 e]) (lstR c) ∧ takeM ([] : List (Nat × Mem)) k (.arr 62 sgE 7 c.1) := fun h => by
    subst h
    exact ⟨none, take_tup (.cons (.nil rfl) (.cons (take_int rfl) .nil)), rfl⟩
  refine CallV.to _ (c_valid' a) rfl ?_
  refine Br.mk (fun h => bad (by rw [← hc]; unfold app; rw [if_pos (fun k => h k.1)])) (fun h => ?_)
  have h := Decidable.not_not.1 h
  refine CallV.to _ (c_valid' b) rfl ?_
  refine Br.mk (fun h2 => bad (by rw [← hc]; unfold app; rw [if_pos (fun k => h2 k.2)])) (fun h2 => ?_)
  have h2 := Decidable.not_not.1 h2
  have ha := valid_len h
  have hb := valid_len h2
  intro _ _
  refine Ar.fit (by omega) ?_
  refine Br.mk (fun h3 => bad (by rw [← hc]; unfold app; rw [if_neg (fun k => k ⟨h, h2⟩), if_pos (by omega)])) (fun h3 => ?_)
  have hc' : c = (a ++ b, 0) := by rw [← hc]; unfold app; rw [if_neg (fun k => k ⟨h, h2⟩), if_neg (by omega)]
  clear bad hc
  subst hc'
  refine ⟨Sg, sgE, [], rfl, Ob.mk ⟨rfl, by decide, by decide, by decide, fun x hx => by cases hx⟩ ?_⟩
  refine ⟨Nat, fun i => ⟨[(7, i64 i), (6, .own 0), (0, .sl sgE a), (1, .sl sgE b)], [(0, .arr 62 sgE 7 (a.take i))], 1, 51, 0⟩, fun i => i ≤ a.length, fun i => a.length - i, 0, Nat.zero_le _, sub_of [(0, some 0)] rfl rfl rfl ⟨rfl, rfl, rfl, rfl, trivial⟩ ⟨rfl, trivial⟩, ?_⟩
  rintro i hi
  have hi : i ≤ a.length := hi
  intro _
  refine Br.mk (fun g1 => ?_) (fun g1 => ?_)
  · refine Ob.mk ⟨by omega, g1⟩ ?_
    intro x hx
    have hx : a[i]? = some x := hx
    have htl : (a.take i).length ≤ 256 := by rw [List.length_take]; omega
    refine ⟨Sg, sgE, [x], rfl, Ob.mk ⟨rfl, by decide, by decide, by decide, fun x _ => ⟨rfl, rfl, rfl⟩⟩ ?_⟩
    refine ⟨[x], rfl, Ob.mk ⟨(by show _ * (56 : Int) ≤ _; simp only [List.length_cons, List.length_nil]; omega), (by simp only [List.length_cons, List.length_nil]; omega), by decide, fun _ _ => rfl⟩ ?_⟩
    refine Ar.fit (by omega) ?_
    exact ⟨i + 1, by show i + 1 ≤ _; omega, sub_of [(0, some 2)] rfl rfl rfl ⟨rfl, rfl, rfl, rfl, trivial⟩ ⟨congrArg (fun q => some (Mem.arr 62 sgE 7 q)) (by rw [List.take_add_one, hx]; rfl), trivial⟩, by dsimp only; omega⟩
  · have hia : i = a.length := by omega
    refine ⟨Nat, fun i => ⟨[(8, i64 i), (6, .own 0), (0, .sl sgE a), (1, .sl sgE b)], [(0, .arr 62 sgE 7 (a ++ b.take i))], 1, 51, 0⟩, fun i => i ≤ b.length, fun i => b.length - i, 0, Nat.zero_le _, sub_of [(0, some 0)] rfl rfl rfl ⟨rfl, rfl, rfl, rfl, trivial⟩ ⟨congrArg (fun q => some (Mem.arr 62 sgE 7 q)) (by rw [hia, List.take_length]; simp), trivial⟩, ?_⟩
    rintro i hi
    have hi : i ≤ b.length := hi
    intro _
    refine Br.mk (fun g1 => ?_) (fun g1 => ?_)
    · refine Ob.mk ⟨by omega, g1⟩ ?_
      intro x hx
      have hx : b[i]? = some x := hx
      have htl : (a ++ b.take i).length ≤ 512 := by rw [List.length_append, List.length_take]; omega
      refine ⟨Sg, sgE, [x], rfl, Ob.mk ⟨rfl, by decide, by decide, by decide, fun x _ => ⟨rfl, rfl, rfl⟩⟩ ?_⟩
      refine ⟨[x], rfl, Ob.mk ⟨(by show _ * (56 : Int) ≤ _; simp only [List.length_cons, List.length_nil]; omega), (by simp only [List.length_cons, List.length_nil]; omega), by decide, fun _ _ => rfl⟩ ?_⟩
      refine Ar.fit (by omega) ?_
      exact ⟨i + 1, by show i + 1 ≤ _; omega, sub_of [(0, some 2)] rfl rfl rfl ⟨rfl, rfl, rfl, rfl, trivial⟩ ⟨congrArg (fun q => some (Mem.arr 62 sgE 7 q)) (by rw [List.take_add_one, hx, List.append_assoc]; rfl), trivial⟩, by dsimp only; omega⟩
    · exact ⟨some 0, take_tup (.cons (.own _ rfl) (.cons (take_int rfl) .nil)), congrArg (fun q => some (Mem.arr 62 sgE 7 q)) (by rw [List.take_of_length_le (by omega)]), fun _ _ => rfl⟩

theorem c_cloneS (q : List Sg) (hq : q.length ≤ 256) : CallsG Try.prog 55 [.sl sgE q] [] (.own 0) [(0, .arr 62 sgE 7 q)] := by
  refine calls_own tok mix Try.func55 rfl rfl rfl ?_
  by_cases h0 : q = []
  · refine NilC.any (Br.mk ?_ ?_)
    · exact ⟨none, .nil rfl, h0⟩
    · refine ⟨Sg, sgE, [], rfl, Ob.mk ⟨rfl, by decide, by decide, by decide, fun x hx => by cases hx⟩ ?_⟩
      refine ⟨q, rfl, Ob.mk ⟨(by show _ * (56 : Int) ≤ _; simp only [List.length_nil]; omega), (by simp only [List.length_nil]; omega), by decide, fun _ _ => rfl⟩ ?_⟩
      exact ⟨some 1, .own _ rfl, rfl, fun _ _ => rfl⟩
  · refine NilC.some (fun h => h0 (List.eq_nil_of_length_eq_zero h)) ?_
    refine ⟨Sg, sgE, [], rfl, Ob.mk ⟨rfl, by decide, by decide, by decide, fun x hx => by cases hx⟩ ?_⟩
    refine ⟨q, rfl, Ob.mk ⟨(by show _ * (56 : Int) ≤ _; simp only [List.length_nil]; omega), (by simp only [List.length_nil]; omega), by decide, fun _ _ => rfl⟩ ?_⟩
    exact ⟨some 1, .own _ rfl, rfl, fun _ _ => rfl⟩

end Go.Gs
/- Paths mirrored, both texts. -/
namespace Go.Gs
open Go.Proofs

def flipP (b : Bool) (lo hi p : Pt) : Pt := match b with
  | true => ⟨p.x, lo.y + hi.y - p.y⟩
  | false => ⟨lo.x + hi.x - p.x, p.y⟩
def part (f : Pt → Pt) (j : Nat) (s : Sg) : Sg := ⟨s.v, if 1 ≤ j then f s.a else s.a, if 2 ≤ j then f s.b else s.b, if 3 ≤ j then f s.c else s.c⟩
def flipS (f : Pt → Pt) (s : Sg) : Sg := part f (nm s.v).toNat s
def flipL (b : Bool) (l : List Sg) : List Sg := l.map (flipS (flipP b (bnd mnP (allPts l)) (bnd mxP (allPts l))))
def flp (b : Bool) (l : List Sg) : List Sg × Int := if valid l then (flipL b l, 0) else ([], 10)

theorem part_zero (f : Pt → Pt) (s : Sg) : part f 0 s = s := rfl
theorem pts_ok {l : List Sg} (h : valid l) : ∀ p ∈ allPts l, ptOK p := fun p hp => by
  obtain ⟨s, hs, hp⟩ := List.mem_flatMap.1 hp
  have hf : fits s := by
    have e := subs_flat l
    rw [← e] at hs
    obtain ⟨g, hg, hsg⟩ := List.mem_flatten.1 hs
    obtain ⟨k, m, mid, _, _, g3, _⟩ := subs_grp h g hg
    exact g3 s hsg
  have hp := List.mem_of_mem_take hp
  simp only [List.mem_cons, List.not_mem_nil, or_false] at hp
  rcases hp with rfl | rfl | rfl
  · exact hf.1.1
  · exact hf.2.1.1
  · exact hf.2.2.1
theorem seg_fits {l : List Sg} (h : valid l) {s : Sg} (hs : s ∈ l) : fits s := by
  have e := subs_flat l
  rw [← e] at hs
  obtain ⟨g, hg, hsg⟩ := List.mem_flatten.1 hs
  obtain ⟨k, m, mid, _, _, g3, _⟩ := subs_grp h g hg
  exact g3 s hsg
theorem fold_ok {f : Pt → Pt → Pt} (hf : ∀ p q, ptOK p → ptOK q → ptOK (f p q)) : ∀ (q : List Pt) (p : Pt), ptOK p → (∀ r ∈ q, ptOK r) → ptOK (q.foldl f p)
  | [], _, hp, _ => hp
  | a :: q, p, hp, h => fold_ok hf q (f p a) (hf p a hp (h a (.head _))) fun r hr => h r (.tail _ hr)
theorem bnd_ok {f : Pt → Pt → Pt} (hf : ∀ p q, ptOK p → ptOK q → ptOK (f p q)) {q : List Pt} (h : ∀ r ∈ q, ptOK r) : ptOK (bnd f q) := by
  cases q with
  | nil => exact zp_ok
  | cons a r => exact fold_ok hf (a :: r) a (h a (.head _)) h
theorem mn_ok {p q : Pt} (h1 : ptOK p) (h2 : ptOK q) : ptOK (mnP p q) := by
  unfold ptOK mnP at *; dsimp only; omega
theorem mx_ok {p q : Pt} (h1 : ptOK p) (h2 : ptOK q) : ptOK (mxP p q) := by
  unfold ptOK mxP at *; dsimp only; omega

def us (v : Int) : Int := max (nm v) 0
theorem c_used (v : Int) : CallsG Try.prog 56 [i64 v] [] (i64 (us v)) [] := by
  refine calls_to tok mix Try.func56 rfl rfl rfl ?_
  refine Br.mk (fun h1 => ?_) (fun h1 => ?_)
  · refine Br.mk (fun _ => ?_) (fun h => absurd h1 h)
    exact LE_int (by rw [h1]; decide)
  refine Br.mk (fun h2 => LE_int (by rw [h2]; decide)) (fun h2 => ?_)
  refine Br.mk (fun h3 => LE_int (by rw [h3]; decide)) (fun h3 => ?_)
  refine Br.mk (fun h4 => LE_int (by rw [h4]; decide)) (fun h4 => ?_)
  refine LE_int ?_
  unfold us nm
  rw [if_neg h1, if_neg h2, if_neg h3, if_neg h4]
  split <;> rfl

def flipTo (F : Sg → Sg) (l : List Sg) (i : Nat) : List Sg := (l.take i).map F ++ l.drop i
theorem flipTo_len (F : Sg → Sg) (l : List Sg) (i : Nat) : (flipTo F l i).length = l.length := by unfold flipTo; simp; omega
theorem flipTo_at {F : Sg → Sg} {l : List Sg} {i : Nat} {x : Sg} (h : l[i]? = some x) : (flipTo F l i)[i]? = some x := by
  have hi := (List.getElem?_eq_some_iff.1 h).1
  unfold flipTo
  rw [List.getElem?_append_right (by simp; omega)]
  simp only [List.length_map, List.length_take, List.getElem?_drop]
  rw [← h]; congr 1; omega
theorem set_same {α : Type} {l : List α} {i : Nat} {x : α} (h : l[i]? = some x) : l.set i x = l := by
  refine List.ext_getElem? fun j => ?_
  rw [List.getElem?_set]
  split
  · rename_i e; subst e
    rw [if_pos (List.getElem?_eq_some_iff.1 h).1, h]
  · rfl
theorem flipTo_next {F : Sg → Sg} {l : List Sg} {i : Nat} {x : Sg} (h : l[i]? = some x) : (flipTo F l i).set i (F x) = flipTo F l (i + 1) := by
  have hi := (List.getElem?_eq_some_iff.1 h).1
  unfold flipTo
  rw [List.set_append_right _ _ (by simp; omega), drop_at h, List.take_add_one, h]
  have : i - ((l.take i).map F).length = 0 := by simp; omega
  rw [this]; simp
theorem at_set {α : Type} {L : List α} {i : Nat} {x z : α} (hi : i < L.length) (h : (L.set i x)[i]? = some z) : z = x := by
  rw [List.getElem?_set_self hi] at h; cases h; rfl

def ptrs (i : Nat) : List (List SV) := [[.eloc 3 7 i 1], [.eloc 3 7 i 3], [.eloc 3 7 i 5]]
theorem ptr_ren {i n q : Nat} {x : List SV} {a : Nat} (hx : ((ptrs i).take n)[q]? = some x) : ren.rens [(0, some 0), (1, some 1), (2, some 2), (3, some 3), (4, some a)] x = some x := by
  have := List.mem_of_mem_take (List.mem_of_getElem? hx)
  unfold ptrs at this
  simp only [List.mem_cons, List.not_mem_nil, or_false] at this
  rcases this with rfl | rfl | rfl <;> rfl

theorem c_mirror_true (lo hi p : Pt) (h1 : ptOK lo) (h2 : ptOK hi) (h3 : ptOK p) : CallsG Try.prog 54 [.agg (ptE p), .ptr [bl true], .ptr (ptE lo), .ptr (ptE hi)] [] (.agg (ptE (flipP true lo hi p))) [] := by
  refine calls_to tok mix Try.func54 rfl rfl rfl ?_
  unfold ptOK at h1 h2 h3
  refine Ar.fit (by omega) ?_
  refine Ar.fit (by omega) ?_
  exact .refl

theorem c_mirror_false (lo hi p : Pt) (h1 : ptOK lo) (h2 : ptOK hi) (h3 : ptOK p) : CallsG Try.prog 54 [.agg (ptE p), .ptr [bl false], .ptr (ptE lo), .ptr (ptE hi)] [] (.agg (ptE (flipP false lo hi p))) [] := by
  refine calls_to tok mix Try.func54 rfl rfl rfl ?_
  unfold ptOK at h1 h2 h3
  refine Ar.fit (by omega) ?_
  refine Ar.fit (by omega) ?_
  exact .refl

set_option maxRecDepth 100000 in
set_option maxHeartbeats 2000000 in
theorem c_flip_true (l : List Sg) : CallsG Try.prog 27 [.sl sgE l, bl true] [] (lstR (flp true l)) [(0, .arr 62 sgE 7 (flp true l).1)] := by
  generalize hc : flp true l = c
  refine calls_own tok mix Try.func27 rfl rfl rfl ?_
  refine CallV.to _ (c_valid l) rfl ?_
  refine Br.mk (fun h => ?_) (fun h => ?_)
  · have : c = ([], 10) := by rw [← hc]; exact if_neg h
    subst this
    exact ⟨none, take_tup (.cons (.nil rfl) (.cons (take_int rfl) .nil)), rfl⟩
  have h := Decidable.not_not.1 h
  have hc' : c = (flipL true l, 0) := by rw [← hc]; exact if_pos h
  subst hc'
  clear hc
  have hvl := valid_len h
  have hlo := bnd_ok (f := mnP) (fun _ _ => mn_ok) (pts_ok h)
  have hhi := bnd_ok (f := mxP) (fun _ _ => mx_ok) (pts_ok h)
  have cb := c_bounds l
  unfold bndR at cb
  rw [show loOf l = bnd mnP (allPts l) from if_pos h, show hiOf l = bnd mxP (allPts l) from if_pos h] at cb
  unfold flipL
  generalize bnd mnP (allPts l) = lo at *
  generalize bnd mxP (allPts l) = hi at *
  refine CallV.to _ cb rfl ?_
  refine CallV.fresh _ _ (c_cloneS l hvl) rfl (sg_flat _) (.inl rfl) ?_
  intro _
  generalize hf : flipP true lo hi = f
  refine ⟨Nat, fun i => ⟨[(29, i64 i), (28, i64 l.length), (10, .own 3), (9, .fn 54 [.loc 0 0, .loc 1 0, .loc 2 0])], [(3, .arr 62 sgE 7 (flipTo (flipS f) l i)), (2, .box 26 (ptE hi)), (1, .box 26 (ptE lo)), (0, .box 4 [bl true])], 4, 68, 0⟩, fun i => i ≤ l.length, fun i => l.length - i, 0, Nat.zero_le _,
    sub_of [(0, some 0), (1, some 1), (2, some 2), (3, some 3)] rfl rfl rfl ⟨rfl, rfl, rfl, rfl, trivial⟩ ⟨rfl, rfl, rfl, rfl, trivial⟩, ?_⟩
  rintro i hil0
  have hil0 : i ≤ l.length := hil0
  have hfl := flipTo_len (flipS f) l i
  refine Br.mk (fun g1 => ?_) (fun g1 => ?_)
  · have g1 : (i : Int) < l.length := g1
    have hx := List.getElem?_eq_getElem (show i < l.length by omega)
    generalize l[i]'(by omega) = x at hx
    have hfx := flipTo_at (F := flipS f) hx
    have hxf := seg_fits h (List.mem_of_getElem? hx)
    obtain ⟨⟨x1, _⟩, ⟨x2, _⟩, ⟨x3, _⟩⟩ := hxf
    refine Dr.mk (by decide +kernel) ?_
    refine Ob.mk ⟨by omega, by omega⟩ ?_
    refine Ob.mk ⟨by omega, by omega⟩ ?_
    refine Ob.mk ⟨by omega, by omega⟩ ?_
    refine ⟨ptrs i, rfl, Ob.mk ⟨rfl, by decide, by decide, by decide, fun z hz => by
      unfold ptrs at hz
      simp only [List.mem_cons, List.not_mem_nil, or_false] at hz
      rcases hz with rfl | rfl | rfl <;> rfl⟩ ?_⟩
    refine Ob.mk ⟨by omega, by omega⟩ ?_
    refine Ob.mk ⟨by omega, by omega⟩ ?_
    intro z hz
    have hz : (flipTo (flipS f) l i)[i]? = some z := hz
    rw [hfx] at hz; cases hz
    have hnr := nm_range x.v
    refine CallV.to _ (c_used x.v) rfl ?_
    have hu : us x.v = max (nm x.v) 0 := rfl
    refine Ob.mk ⟨rfl, by omega, by show us x.v ≤ 3; omega⟩ ?_
    intro _
    have hul : ((ptrs i).take (us x.v).toNat).length = (us x.v).toNat := by rw [List.length_take]; show min _ 3 = _; omega
    refine ⟨Nat, fun j => ⟨[(54, i64 j), (53, i64 ((ptrs i).take (us x.v).toNat).length), (52, .own 4), (29, i64 i), (28, i64 l.length), (10, .own 3), (9, .fn 54 [.loc 0 0, .loc 1 0, .loc 2 0])], [(4, .garr 75 1 ((ptrs i).take (us x.v).toNat)), (3, .arr 62 sgE 7 ((flipTo (flipS f) l i).set i (part f j x))), (2, .box 26 (ptE hi)), (1, .box 26 (ptE lo)), (0, .box 4 [bl true])], 5, 68, 0⟩,
      fun j => (j : Int) ≤ us x.v, fun j => 3 - j, 0, by show ((0 : Nat) : Int) ≤ us x.v; omega,
      sub_of [(0, some 0), (1, some 1), (2, some 2), (3, some 3), (4, some 5)] rfl rfl rfl ⟨rfl, rfl, rfl, rfl, rfl, rfl, rfl, trivial⟩ ⟨⟨_, rfl, rfl, fun q y hy => ⟨y, hy, ptr_ren hy⟩⟩, congrArg (fun q => some (Mem.arr 62 sgE 7 q)) (set_same hfx).symm, rfl, rfl, rfl, trivial⟩, ?_⟩
    rintro j hj
    have hj : (j : Int) ≤ us x.v := hj
    have hsl : ((flipTo (flipS f) l i).set i (part f j x)).length = l.length := by rw [List.length_set, hfl]
    refine Br.mk (fun g2 => ?_) (fun g2 => ?_)
    · have g2 : (j : Int) < ((ptrs i).take (us x.v).toNat).length := g2
      have e : j = 0 ∨ j = 1 ∨ j = 2 := by omega
      rcases e with rfl | rfl | rfl
      · refine Ob.mk ⟨by decide, g2⟩ ?_
        refine Ob.mk ⟨by decide, g2⟩ ?_
        intro y hy
        have hy : ((ptrs i).take (us x.v).toNat)[0]? = some y := hy
        rw [List.getElem?_take, if_pos (by omega)] at hy
        have hy : some [SV.eloc 3 7 i 1] = some y := hy
        cases hy
        refine Ob.mk ⟨by omega, by omega⟩ ?_
        intro z hz
        obtain rfl := at_set (i := i) (by omega) hz
        have cm := c_mirror_true lo hi x.a hlo hhi x1
        rw [hf] at cm
        refine CallV.to _ cm rfl ?_
        refine Ob.mk ⟨by omega, by omega⟩ ?_
        intro z hz
        obtain rfl := at_set (i := i) (by omega) hz
        refine ⟨part f 1 x, rfl, ?_⟩
        refine Ar.fit (by decide) ?_
        exact ⟨1, by show ((1 : Nat) : Int) ≤ us x.v; omega, sub_of [(0, some 0), (1, some 1), (2, some 2), (3, some 3), (4, some 4)] rfl rfl rfl ⟨rfl, rfl, rfl, rfl, rfl, rfl, rfl, trivial⟩ ⟨⟨_, rfl, rfl, fun q y hy => ⟨y, hy, ptr_ren hy⟩⟩, congrArg (fun q => some (Mem.arr 62 sgE 7 q)) (List.set_set ..), rfl, rfl, rfl, trivial⟩, by decide⟩
      · refine Ob.mk ⟨by decide, g2⟩ ?_
        refine Ob.mk ⟨by decide, g2⟩ ?_
        intro y hy
        have hy : ((ptrs i).take (us x.v).toNat)[1]? = some y := hy
        rw [List.getElem?_take, if_pos (by omega)] at hy
        have hy : some [SV.eloc 3 7 i 3] = some y := hy
        cases hy
        refine Ob.mk ⟨by omega, by omega⟩ ?_
        intro z hz
        obtain rfl := at_set (i := i) (by omega) hz
        have cm := c_mirror_true lo hi x.b hlo hhi x2
        rw [hf] at cm
        refine CallV.to _ cm rfl ?_
        refine Ob.mk ⟨by omega, by omega⟩ ?_
        intro z hz
        obtain rfl := at_set (i := i) (by omega) hz
        refine ⟨part f 2 x, rfl, ?_⟩
        refine Ar.fit (by decide) ?_
        exact ⟨2, by show ((2 : Nat) : Int) ≤ us x.v; omega, sub_of [(0, some 0), (1, some 1), (2, some 2), (3, some 3), (4, some 4)] rfl rfl rfl ⟨rfl, rfl, rfl, rfl, rfl, rfl, rfl, trivial⟩ ⟨⟨_, rfl, rfl, fun q y hy => ⟨y, hy, ptr_ren hy⟩⟩, congrArg (fun q => some (Mem.arr 62 sgE 7 q)) (List.set_set ..), rfl, rfl, rfl, trivial⟩, by decide⟩
      · refine Ob.mk ⟨by decide, g2⟩ ?_
        refine Ob.mk ⟨by decide, g2⟩ ?_
        intro y hy
        have hy : ((ptrs i).take (us x.v).toNat)[2]? = some y := hy
        rw [List.getElem?_take, if_pos (by omega)] at hy
        have hy : some [SV.eloc 3 7 i 5] = some y := hy
        cases hy
        refine Ob.mk ⟨by omega, by omega⟩ ?_
        intro z hz
        obtain rfl := at_set (i := i) (by omega) hz
        have cm := c_mirror_true lo hi x.c hlo hhi x3
        rw [hf] at cm
        refine CallV.to _ cm rfl ?_
        refine Ob.mk ⟨by omega, by omega⟩ ?_
        intro z hz
        obtain rfl := at_set (i := i) (by omega) hz
        refine ⟨part f 3 x, rfl, ?_⟩
        refine Ar.fit (by decide) ?_
        exact ⟨3, by show ((3 : Nat) : Int) ≤ us x.v; omega, sub_of [(0, some 0), (1, some 1), (2, some 2), (3, some 3), (4, some 4)] rfl rfl rfl ⟨rfl, rfl, rfl, rfl, rfl, rfl, rfl, trivial⟩ ⟨⟨_, rfl, rfl, fun q y hy => ⟨y, hy, ptr_ren hy⟩⟩, congrArg (fun q => some (Mem.arr 62 sgE 7 q)) (List.set_set ..), rfl, rfl, rfl, trivial⟩, by decide⟩
    · have g2 : ¬ (j : Int) < ((ptrs i).take (us x.v).toNat).length := g2
      have hju : j = (nm x.v).toNat := by omega
      refine Ar.fit (by omega) ?_
      exact ⟨i + 1, by show i + 1 ≤ _; omega, sub_of [(0, some 0), (1, some 1), (2, some 2), (3, some 3)] rfl rfl rfl ⟨rfl, rfl, rfl, rfl, trivial⟩ ⟨congrArg (fun q => some (Mem.arr 62 sgE 7 q)) (by rw [hju]; exact flipTo_next hx), rfl, rfl, rfl, trivial⟩, by dsimp only; omega⟩
  · have hil : i = l.length := by omega
    exact ⟨some 3, take_tup (.cons (.own _ rfl) (.cons (take_int rfl) .nil)), congrArg (fun q => some (Mem.arr 62 sgE 7 q)) (by unfold flipTo; rw [hil, List.take_length, List.drop_length, List.append_nil]), fun _ _ => rfl⟩

set_option maxRecDepth 100000 in
set_option maxHeartbeats 2000000 in
theorem c_flip_false (l : List Sg) : CallsG Try.prog 27 [.sl sgE l, bl false] [] (lstR (flp false l)) [(0, .arr 62 sgE 7 (flp false l).1)] := by
  generalize hc : flp false l = c
  refine calls_own tok mix Try.func27 rfl rfl rfl ?_
  refine CallV.to _ (c_valid l) rfl ?_
  refine Br.mk (fun h => ?_) (fun h => ?_)
  · have : c = ([], 10) := by rw [← hc]; exact if_neg h
    subst this
    exact ⟨none, take_tup (.cons (.nil rfl) (.cons (take_int rfl) .nil)), rfl⟩
  have h := Decidable.not_not.1 h
  have hc' : c = (flipL false l, 0) := by rw [← hc]; exact if_pos h
  subst hc'
  clear hc
  have hvl := valid_len h
  have hlo := bnd_ok (f := mnP) (fun _ _ => mn_ok) (pts_ok h)
  have hhi := bnd_ok (f := mxP) (fun _ _ => mx_ok) (pts_ok h)
  have cb := c_bounds l
  unfold bndR at cb
  rw [show loOf l = bnd mnP (allPts l) from if_pos h, show hiOf l = bnd mxP (allPts l) from if_pos h] at cb
  unfold flipL
  generalize bnd mnP (allPts l) = lo at *
  generalize bnd mxP (allPts l) = hi at *
  refine CallV.to _ cb rfl ?_
  refine CallV.fresh _ _ (c_cloneS l hvl) rfl (sg_flat _) (.inl rfl) ?_
  intro _
  generalize hf : flipP false lo hi = f
  refine ⟨Nat, fun i => ⟨[(29, i64 i), (28, i64 l.length), (10, .own 3), (9, .fn 54 [.loc 0 0, .loc 1 0, .loc 2 0])], [(3, .arr 62 sgE 7 (flipTo (flipS f) l i)), (2, .box 26 (ptE hi)), (1, .box 26 (ptE lo)), (0, .box 4 [bl false])], 4, 68, 0⟩, fun i => i ≤ l.length, fun i => l.length - i, 0, Nat.zero_le _,
    sub_of [(0, some 0), (1, some 1), (2, some 2), (3, some 3)] rfl rfl rfl ⟨rfl, rfl, rfl, rfl, trivial⟩ ⟨rfl, rfl, rfl, rfl, trivial⟩, ?_⟩
  rintro i hil0
  have hil0 : i ≤ l.length := hil0
  have hfl := flipTo_len (flipS f) l i
  refine Br.mk (fun g1 => ?_) (fun g1 => ?_)
  · have g1 : (i : Int) < l.length := g1
    have hx := List.getElem?_eq_getElem (show i < l.length by omega)
    generalize l[i]'(by omega) = x at hx
    have hfx := flipTo_at (F := flipS f) hx
    have hxf := seg_fits h (List.mem_of_getElem? hx)
    obtain ⟨⟨x1, _⟩, ⟨x2, _⟩, ⟨x3, _⟩⟩ := hxf
    refine Dr.mk (by decide +kernel) ?_
    refine Ob.mk ⟨by omega, by omega⟩ ?_
    refine Ob.mk ⟨by omega, by omega⟩ ?_
    refine Ob.mk ⟨by omega, by omega⟩ ?_
    refine ⟨ptrs i, rfl, Ob.mk ⟨rfl, by decide, by decide, by decide, fun z hz => by
      unfold ptrs at hz
      simp only [List.mem_cons, List.not_mem_nil, or_false] at hz
      rcases hz with rfl | rfl | rfl <;> rfl⟩ ?_⟩
    refine Ob.mk ⟨by omega, by omega⟩ ?_
    refine Ob.mk ⟨by omega, by omega⟩ ?_
    intro z hz
    have hz : (flipTo (flipS f) l i)[i]? = some z := hz
    rw [hfx] at hz; cases hz
    have hnr := nm_range x.v
    refine CallV.to _ (c_used x.v) rfl ?_
    have hu : us x.v = max (nm x.v) 0 := rfl
    refine Ob.mk ⟨rfl, by omega, by show us x.v ≤ 3; omega⟩ ?_
    intro _
    have hul : ((ptrs i).take (us x.v).toNat).length = (us x.v).toNat := by rw [List.length_take]; show min _ 3 = _; omega
    refine ⟨Nat, fun j => ⟨[(54, i64 j), (53, i64 ((ptrs i).take (us x.v).toNat).length), (52, .own 4), (29, i64 i), (28, i64 l.length), (10, .own 3), (9, .fn 54 [.loc 0 0, .loc 1 0, .loc 2 0])], [(4, .garr 75 1 ((ptrs i).take (us x.v).toNat)), (3, .arr 62 sgE 7 ((flipTo (flipS f) l i).set i (part f j x))), (2, .box 26 (ptE hi)), (1, .box 26 (ptE lo)), (0, .box 4 [bl false])], 5, 68, 0⟩,
      fun j => (j : Int) ≤ us x.v, fun j => 3 - j, 0, by show ((0 : Nat) : Int) ≤ us x.v; omega,
      sub_of [(0, some 0), (1, some 1), (2, some 2), (3, some 3), (4, some 5)] rfl rfl rfl ⟨rfl, rfl, rfl, rfl, rfl, rfl, rfl, trivial⟩ ⟨⟨_, rfl, rfl, fun q y hy => ⟨y, hy, ptr_ren hy⟩⟩, congrArg (fun q => some (Mem.arr 62 sgE 7 q)) (set_same hfx).symm, rfl, rfl, rfl, trivial⟩, ?_⟩
    rintro j hj
    have hj : (j : Int) ≤ us x.v := hj
    have hsl : ((flipTo (flipS f) l i).set i (part f j x)).length = l.length := by rw [List.length_set, hfl]
    refine Br.mk (fun g2 => ?_) (fun g2 => ?_)
    · have g2 : (j : Int) < ((ptrs i).take (us x.v).toNat).length := g2
      have e : j = 0 ∨ j = 1 ∨ j = 2 := by omega
      rcases e with rfl | rfl | rfl
      · refine Ob.mk ⟨by decide, g2⟩ ?_
        refine Ob.mk ⟨by decide, g2⟩ ?_
        intro y hy
        have hy : ((ptrs i).take (us x.v).toNat)[0]? = some y := hy
        rw [List.getElem?_take, if_pos (by omega)] at hy
        have hy : some [SV.eloc 3 7 i 1] = some y := hy
        cases hy
        refine Ob.mk ⟨by omega, by omega⟩ ?_
        intro z hz
        obtain rfl := at_set (i := i) (by omega) hz
        have cm := c_mirror_false lo hi x.a hlo hhi x1
        rw [hf] at cm
        refine CallV.to _ cm rfl ?_
        refine Ob.mk ⟨by omega, by omega⟩ ?_
        intro z hz
        obtain rfl := at_set (i := i) (by omega) hz
        refine ⟨part f 1 x, rfl, ?_⟩
        refine Ar.fit (by decide) ?_
        exact ⟨1, by show ((1 : Nat) : Int) ≤ us x.v; omega, sub_of [(0, some 0), (1, some 1), (2, some 2), (3, some 3), (4, some 4)] rfl rfl rfl ⟨rfl, rfl, rfl, rfl, rfl, rfl, rfl, trivial⟩ ⟨⟨_, rfl, rfl, fun q y hy => ⟨y, hy, ptr_ren hy⟩⟩, congrArg (fun q => some (Mem.arr 62 sgE 7 q)) (List.set_set ..), rfl, rfl, rfl, trivial⟩, by decide⟩
      · refine Ob.mk ⟨by decide, g2⟩ ?_
        refine Ob.mk ⟨by decide, g2⟩ ?_
        intro y hy
        have hy : ((ptrs i).take (us x.v).toNat)[1]? = some y := hy
        rw [List.getElem?_take, if_pos (by omega)] at hy
        have hy : some [SV.eloc 3 7 i 3] = some y := hy
        cases hy
        refine Ob.mk ⟨by omega, by omega⟩ ?_
        intro z hz
        obtain rfl := at_set (i := i) (by omega) hz
        have cm := c_mirror_false lo hi x.b hlo hhi x2
        rw [hf] at cm
        refine CallV.to _ cm rfl ?_
        refine Ob.mk ⟨by omega, by omega⟩ ?_
        intro z hz
        obtain rfl := at_set (i := i) (by omega) hz
        refine ⟨part f 2 x, rfl, ?_⟩
        refine Ar.fit (by decide) ?_
        exact ⟨2, by show ((2 : Nat) : Int) ≤ us x.v; omega, sub_of [(0, some 0), (1, some 1), (2, some 2), (3, some 3), (4, some 4)] rfl rfl rfl ⟨rfl, rfl, rfl, rfl, rfl, rfl, rfl, trivial⟩ ⟨⟨_, rfl, rfl, fun q y hy => ⟨y, hy, ptr_ren hy⟩⟩, congrArg (fun q => some (Mem.arr 62 sgE 7 q)) (List.set_set ..), rfl, rfl, rfl, trivial⟩, by decide⟩
      · refine Ob.mk ⟨by decide, g2⟩ ?_
        refine Ob.mk ⟨by decide, g2⟩ ?_
        intro y hy
        have hy : ((ptrs i).take (us x.v).toNat)[2]? = some y := hy
        rw [List.getElem?_take, if_pos (by omega)] at hy
        have hy : some [SV.eloc 3 7 i 5] = some y := hy
        cases hy
        refine Ob.mk ⟨by omega, by omega⟩ ?_
        intro z hz
        obtain rfl := at_set (i := i) (by omega) hz
        have cm := c_mirror_false lo hi x.c hlo hhi x3
        rw [hf] at cm
        refine CallV.to _ cm rfl ?_
        refine Ob.mk ⟨by omega, by omega⟩ ?_
        intro z hz
        obtain rfl := at_set (i := i) (by omega) hz
        refine ⟨part f 3 x, rfl, ?_⟩
        refine Ar.fit (by decide) ?_
        exact ⟨3, by show ((3 : Nat) : Int) ≤ us x.v; omega, sub_of [(0, some 0), (1, some 1), (2, some 2), (3, some 3), (4, some 4)] rfl rfl rfl ⟨rfl, rfl, rfl, rfl, rfl, rfl, rfl, trivial⟩ ⟨⟨_, rfl, rfl, fun q y hy => ⟨y, hy, ptr_ren hy⟩⟩, congrArg (fun q => some (Mem.arr 62 sgE 7 q)) (List.set_set ..), rfl, rfl, rfl, trivial⟩, by decide⟩
    · have g2 : ¬ (j : Int) < ((ptrs i).take (us x.v).toNat).length := g2
      have hju : j = (nm x.v).toNat := by omega
      refine Ar.fit (by omega) ?_
      exact ⟨i + 1, by show i + 1 ≤ _; omega, sub_of [(0, some 0), (1, some 1), (2, some 2), (3, some 3)] rfl rfl rfl ⟨rfl, rfl, rfl, rfl, trivial⟩ ⟨congrArg (fun q => some (Mem.arr 62 sgE 7 q)) (by rw [hju]; exact flipTo_next hx), rfl, rfl, rfl, trivial⟩, by dsimp only; omega⟩
  · have hil : i = l.length := by omega
    exact ⟨some 3, take_tup (.cons (.own _ rfl) (.cons (take_int rfl) .nil)), congrArg (fun q => some (Mem.arr 62 sgE 7 q)) (by unfold flipTo; rw [hil, List.take_length, List.drop_length, List.append_nil]), fun _ _ => rfl⟩

end Go.Gs
/- Paths mirrored, the other text; the law. -/
namespace Go.Gs
open Go.Proofs

set_option maxRecDepth 100000 in
set_option maxHeartbeats 2000000 in
theorem c_flip_true' (l : List Sg) : CallsG Try.prog 28 [.sl sgE l, bl true] [] (lstR (flp true l)) [(0, .arr 62 sgE 7 (flp true l).1)] := by
  generalize hc : flp true l = c
  refine calls_own tok mix Try.func28 rfl rfl rfl ?_
  refine CallV.to _ (c_valid' l) rfl ?_
  refine Br.mk (fun h => ?_) (fun h => ?_)
  · have : c = ([], 10) := by rw [← hc]; exact if_neg h
    subst this
    exact ⟨none, take_tup (.cons (.nil rfl) (.cons (take_int rfl) .nil)), rfl⟩
  have h := Decidable.not_not.1 h
  have hc' : c = (flipL true l, 0) := by rw [← hc]; exact if_pos h
  subst hc'
  clear hc
  have hvl := valid_len h
  have hlo := bnd_ok (f := mnP) (fun _ _ => mn_ok) (pts_ok h)
  have hhi := bnd_ok (f := mxP) (fun _ _ => mx_ok) (pts_ok h)
  have cb := c_bounds' l (by omega)
  unfold bndR at cb
  rw [show loOf l = bnd mnP (allPts l) from if_pos h, show hiOf l = bnd mxP (allPts l) from if_pos h] at cb
  unfold flipL
  generalize bnd mnP (allPts l) = lo at *
  generalize bnd mxP (allPts l) = hi at *
  refine CallV.to _ cb rfl ?_
  refine ⟨Sg, sgE, [], rfl, Ob.mk ⟨rfl, by decide, by decide, by decide, fun x hx => by cases hx⟩ ?_⟩
  refine ⟨Nat, fun i => ⟨[(10, i64 i), (9, .own 2), (7, .loc 1 0), (6, .loc 0 0), (0, .sl sgE l), (1, bl true)], [(2, .arr 62 sgE 7 ((l.take i).map (flipS (flipP true lo hi)))), (1, .box 26 (ptE hi)), (0, .box 26 (ptE lo))], 3, 95, 0⟩, fun i => i ≤ l.length, fun i => l.length - i, 0, Nat.zero_le _,
    sub_of [(0, some 0), (1, some 1), (2, some 2)] rfl rfl rfl ⟨rfl, rfl, rfl, rfl, rfl, rfl, trivial⟩ ⟨rfl, rfl, rfl, trivial⟩, ?_⟩
  rintro i hil0
  have hil0 : i ≤ l.length := hil0
  intro _
  refine Br.mk (fun g1 => ?_) (fun g1 => ?_)
  · have g1 : (i : Int) < l.length := g1
    have hx := List.getElem?_eq_getElem (show i < l.length by omega)
    generalize l[i]'(by omega) = x at hx
    obtain ⟨⟨x1, _⟩, ⟨x2, _⟩, ⟨x3, _⟩⟩ := seg_fits h (List.mem_of_getElem? hx)
    have hnr := nm_range x.v
    refine Ob.mk ⟨by omega, g1⟩ ?_
    intro y hy
    have hy : l[i]? = some y := hy
    rw [hx] at hy; cases hy
    refine CallV.to _ (c_three x) rfl ?_
    have hml : ((l.take i).map (flipS (flipP true lo hi))).length ≤ 256 := by simp; omega
    refine ⟨Nat, fun k => ⟨[(12, i64 k), (11, .loc 3 0), (10, i64 i), (9, .own 2), (7, .loc 1 0), (6, .loc 0 0), (0, .sl sgE l), (1, bl true)], [(3, .box 77 (ptE (part (flipP true lo hi) k x).a ++ ptE (part (flipP true lo hi) k x).b ++ ptE (part (flipP true lo hi) k x).c)), (2, .arr 62 sgE 7 ((l.take i).map (flipS (flipP true lo hi)))), (1, .box 26 (ptE hi)), (0, .box 26 (ptE lo))], 4, 95, 0⟩,
      fun k => k ≤ (nm x.v).toNat, fun k => 3 - k, 0, Nat.zero_le _, sub_of [(0, some 0), (1, some 1), (2, some 2), (3, some 3)] rfl rfl rfl ⟨rfl, rfl, rfl, rfl, rfl, rfl, rfl, rfl, trivial⟩ ⟨rfl, rfl, rfl, rfl, trivial⟩, ?_⟩
    rintro k hk0
    have hk0 : k ≤ (nm x.v).toNat := hk0
    refine Ob.mk ⟨by omega, g1⟩ ?_
    intro y hy
    have hy : l[i]? = some y := hy
    rw [hx] at hy; cases hy
    refine CallV.to _ (c_named' x.v) rfl ?_
    unfold ptOK at hlo hhi x1 x2 x3
    refine Br.mk (fun g2 => ?_) (fun g2 => ?_)
    · have g2 : (k : Int) < nm x.v := g2
      have e : k = 0 ∨ k = 1 ∨ k = 2 := by omega
      rcases e with rfl | rfl | rfl
      · refine Dr.mk (by decide +kernel) ?_
        refine Ar.fit (by omega) ?_
        refine Ar.fit (by show _ ≤ _ - x.a.y ∧ _ - x.a.y ≤ _; omega) ?_
        refine Ar.fit (by decide) ?_
        exact ⟨1, by show 1 ≤ _; omega, sub_of [(0, some 0), (1, some 1), (2, some 2), (3, some 3)] rfl rfl rfl ⟨rfl, rfl, rfl, rfl, rfl, rfl, rfl, rfl, trivial⟩ ⟨rfl, rfl, rfl, rfl, trivial⟩, by decide⟩
      · refine Dr.mk (by decide +kernel) ?_
        refine Ar.fit (by omega) ?_
        refine Ar.fit (by show _ ≤ _ - x.b.y ∧ _ - x.b.y ≤ _; omega) ?_
        refine Ar.fit (by decide) ?_
        exact ⟨2, by show 2 ≤ _; omega, sub_of [(0, some 0), (1, some 1), (2, some 2), (3, some 3)] rfl rfl rfl ⟨rfl, rfl, rfl, rfl, rfl, rfl, rfl, rfl, trivial⟩ ⟨rfl, rfl, rfl, rfl, trivial⟩, by decide⟩
      · refine Dr.mk (by decide +kernel) ?_
        refine Ar.fit (by omega) ?_
        refine Ar.fit (by show _ ≤ _ - x.c.y ∧ _ - x.c.y ≤ _; omega) ?_
        refine Ar.fit (by decide) ?_
        exact ⟨3, by show 3 ≤ _; omega, sub_of [(0, some 0), (1, some 1), (2, some 2), (3, some 3)] rfl rfl rfl ⟨rfl, rfl, rfl, rfl, rfl, rfl, rfl, rfl, trivial⟩ ⟨rfl, rfl, rfl, rfl, trivial⟩, by decide⟩
    · have g2 : ¬ (k : Int) < nm x.v := g2
      have hku : k = (nm x.v).toNat := by omega
      refine Dr.mk (by decide +kernel) ?_
      refine Ob.mk ⟨by omega, g1⟩ ?_
      intro y hy
      have hy : l[i]? = some y := hy
      rw [hx] at hy; cases hy
      refine ⟨Sg, sgE, [part (flipP true lo hi) k x], rfl, Ob.mk ⟨rfl, by decide, by decide, by decide, fun x _ => ⟨rfl, rfl, rfl⟩⟩ ?_⟩
      refine ⟨[part (flipP true lo hi) k x], rfl, Ob.mk ⟨(by show _ * (56 : Int) ≤ _; simp only [List.length_cons, List.length_nil]; omega), (by simp only [List.length_cons, List.length_nil]; omega), by decide, fun _ _ => rfl⟩ ?_⟩
      refine Ar.fit (by omega) ?_
      exact ⟨i + 1, by show i + 1 ≤ _; omega, sub_of [(0, some 0), (1, some 1), (2, some 5)] rfl rfl rfl ⟨rfl, rfl, rfl, rfl, rfl, rfl, trivial⟩ ⟨congrArg (fun q => some (Mem.arr 62 sgE 7 q)) (by rw [List.take_add_one, hx, hku]; simp [flipS]), rfl, rfl, trivial⟩, by dsimp only; omega⟩
  · have hil : i = l.length := by omega
    exact ⟨some 2, take_tup (.cons (.own _ rfl) (.cons (take_int rfl) .nil)), congrArg (fun q => some (Mem.arr 62 sgE 7 q)) (by rw [hil, List.take_length]), fun _ _ => rfl⟩

set_option maxRecDepth 100000 in
set_option maxHeartbeats 2000000 in
theorem c_flip_false' (l : List Sg) : CallsG Try.prog 28 [.sl sgE l, bl false] [] (lstR (flp false l)) [(0, .arr 62 sgE 7 (flp false l).1)] := by
  generalize hc : flp false l = c
  refine calls_own tok mix Try.func28 rfl rfl rfl ?_
  refine CallV.to _ (c_valid' l) rfl ?_
  refine Br.mk (fun h => ?_) (fun h => ?_)
  · have : c = ([], 10) := by rw [← hc]; exact if_neg h
    subst this
    exact ⟨none, take_tup (.cons (.nil rfl) (.cons (take_int rfl) .nil)), rfl⟩
  have h := Decidable.not_not.1 h
  have hc' : c = (flipL false l, 0) := by rw [← hc]; exact if_pos h
  subst hc'
  clear hc
  have hvl := valid_len h
  have hlo := bnd_ok (f := mnP) (fun _ _ => mn_ok) (pts_ok h)
  have hhi := bnd_ok (f := mxP) (fun _ _ => mx_ok) (pts_ok h)
  have cb := c_bounds' l (by omega)
  unfold bndR at cb
  rw [show loOf l = bnd mnP (allPts l) from if_pos h, show hiOf l = bnd mxP (allPts l) from if_pos h] at cb
  unfold flipL
  generalize bnd mnP (allPts l) = lo at *
  generalize bnd mxP (allPts l) = hi at *
  refine CallV.to _ cb rfl ?_
  refine ⟨Sg, sgE, [], rfl, Ob.mk ⟨rfl, by decide, by decide, by decide, fun x hx => by cases hx⟩ ?_⟩
  refine ⟨Nat, fun i => ⟨[(10, i64 i), (9, .own 2), (7, .loc 1 0), (6, .loc 0 0), (0, .sl sgE l), (1, bl false)], [(2, .arr 62 sgE 7 ((l.take i).map (flipS (flipP false lo hi)))), (1, .box 26 (ptE hi)), (0, .box 26 (ptE lo))], 3, 95, 0⟩, fun i => i ≤ l.length, fun i => l.length - i, 0, Nat.zero_le _,
    sub_of [(0, some 0), (1, some 1), (2, some 2)] rfl rfl rfl ⟨rfl, rfl, rfl, rfl, rfl, rfl, trivial⟩ ⟨rfl, rfl, rfl, trivial⟩, ?_⟩
  rintro i hil0
  have hil0 : i ≤ l.length := hil0
  intro _
  refine Br.mk (fun g1 => ?_) (fun g1 => ?_)
  · have g1 : (i : Int) < l.length := g1
    have hx := List.getElem?_eq_getElem (show i < l.length by omega)
    generalize l[i]'(by omega) = x at hx
    obtain ⟨⟨x1, _⟩, ⟨x2, _⟩, ⟨x3, _⟩⟩ := seg_fits h (List.mem_of_getElem? hx)
    have hnr := nm_range x.v
    refine Ob.mk ⟨by omega, g1⟩ ?_
    intro y hy
    have hy : l[i]? = some y := hy
    rw [hx] at hy; cases hy
    refine CallV.to _ (c_three x) rfl ?_
    have hml : ((l.take i).map (flipS (flipP false lo hi))).length ≤ 256 := by simp; omega
    refine ⟨Nat, fun k => ⟨[(12, i64 k), (11, .loc 3 0), (10, i64 i), (9, .own 2), (7, .loc 1 0), (6, .loc 0 0), (0, .sl sgE l), (1, bl false)], [(3, .box 77 (ptE (part (flipP false lo hi) k x).a ++ ptE (part (flipP false lo hi) k x).b ++ ptE (part (flipP false lo hi) k x).c)), (2, .arr 62 sgE 7 ((l.take i).map (flipS (flipP false lo hi)))), (1, .box 26 (ptE hi)), (0, .box 26 (ptE lo))], 4, 95, 0⟩,
      fun k => k ≤ (nm x.v).toNat, fun k => 3 - k, 0, Nat.zero_le _, sub_of [(0, some 0), (1, some 1), (2, some 2), (3, some 3)] rfl rfl rfl ⟨rfl, rfl, rfl, rfl, rfl, rfl, rfl, rfl, trivial⟩ ⟨rfl, rfl, rfl, rfl, trivial⟩, ?_⟩
    rintro k hk0
    have hk0 : k ≤ (nm x.v).toNat := hk0
    refine Ob.mk ⟨by omega, g1⟩ ?_
    intro y hy
    have hy : l[i]? = some y := hy
    rw [hx] at hy; cases hy
    refine CallV.to _ (c_named' x.v) rfl ?_
    unfold ptOK at hlo hhi x1 x2 x3
    refine Br.mk (fun g2 => ?_) (fun g2 => ?_)
    · have g2 : (k : Int) < nm x.v := g2
      have e : k = 0 ∨ k = 1 ∨ k = 2 := by omega
      rcases e with rfl | rfl | rfl
      · refine Dr.mk (by decide +kernel) ?_
        refine Ar.fit (by omega) ?_
        refine Ar.fit (by show _ ≤ _ - x.a.x ∧ _ - x.a.x ≤ _; omega) ?_
        refine Ar.fit (by decide) ?_
        exact ⟨1, by show 1 ≤ _; omega, sub_of [(0, some 0), (1, some 1), (2, some 2), (3, some 3)] rfl rfl rfl ⟨rfl, rfl, rfl, rfl, rfl, rfl, rfl, rfl, trivial⟩ ⟨rfl, rfl, rfl, rfl, trivial⟩, by decide⟩
      · refine Dr.mk (by decide +kernel) ?_
        refine Ar.fit (by omega) ?_
        refine Ar.fit (by show _ ≤ _ - x.b.x ∧ _ - x.b.x ≤ _; omega) ?_
        refine Ar.fit (by decide) ?_
        exact ⟨2, by show 2 ≤ _; omega, sub_of [(0, some 0), (1, some 1), (2, some 2), (3, some 3)] rfl rfl rfl ⟨rfl, rfl, rfl, rfl, rfl, rfl, rfl, rfl, trivial⟩ ⟨rfl, rfl, rfl, rfl, trivial⟩, by decide⟩
      · refine Dr.mk (by decide +kernel) ?_
        refine Ar.fit (by omega) ?_
        refine Ar.fit (by show _ ≤ _ - x.c.x ∧ _ - x.c.x ≤ _; omega) ?_
        refine Ar.fit (by decide) ?_
        exact ⟨3, by show 3 ≤ _; omega, sub_of [(0, some 0), (1, some 1), (2, some 2), (3, some 3)] rfl rfl rfl ⟨rfl, rfl, rfl, rfl, rfl, rfl, rfl, rfl, trivial⟩ ⟨rfl, rfl, rfl, rfl, trivial⟩, by decide⟩
    · have g2 : ¬ (k : Int) < nm x.v := g2
      have hku : k = (nm x.v).toNat := by omega
      refine Dr.mk (by decide +kernel) ?_
      refine Ob.mk ⟨by omega, g1⟩ ?_
      intro y hy
      have hy : l[i]? = some y := hy
      rw [hx] at hy; cases hy
      refine ⟨Sg, sgE, [part (flipP false lo hi) k x], rfl, Ob.mk ⟨rfl, by decide, by decide, by decide, fun x _ => ⟨rfl, rfl, rfl⟩⟩ ?_⟩
      refine ⟨[part (flipP false lo hi) k x], rfl, Ob.mk ⟨(by show _ * (56 : Int) ≤ _; simp only [List.length_cons, List.length_nil]; omega), (by simp only [List.length_cons, List.length_nil]; omega), by decide, fun _ _ => rfl⟩ ?_⟩
      refine Ar.fit (by omega) ?_
      exact ⟨i + 1, by show i + 1 ≤ _; omega, sub_of [(0, some 0), (1, some 1), (2, some 5)] rfl rfl rfl ⟨rfl, rfl, rfl, rfl, rfl, rfl, trivial⟩ ⟨congrArg (fun q => some (Mem.arr 62 sgE 7 q)) (by rw [List.take_add_one, hx, hku]; simp [flipS]), rfl, rfl, trivial⟩, by dsimp only; omega⟩
  · have hil : i = l.length := by omega
    exact ⟨some 2, take_tup (.cons (.own _ rfl) (.cons (take_int rfl) .nil)), congrArg (fun q => some (Mem.arr 62 sgE 7 q)) (by rw [hil, List.take_length]), fun _ _ => rfl⟩

theorem flipP_inv (b : Bool) (lo hi p : Pt) : flipP b lo hi (flipP b lo hi p) = p := by
  cases b <;> (unfold flipP; refine pt_ext ?_ ?_ <;> dsimp only <;> omega)
theorem part_v (f : Pt → Pt) (j : Nat) (s : Sg) : (part f j s).v = s.v := rfl
theorem flipS_inv (b : Bool) (lo hi : Pt) (s : Sg) : flipS (flipP b lo hi) (flipS (flipP b lo hi) s) = s := by
  obtain ⟨v, a, c, d⟩ := s
  unfold flipS part
  dsimp only
  congr 1 <;> (split <;> simp_all [flipP_inv])
theorem flipS_pts (f : Pt → Pt) (s : Sg) : ptsOf (flipS f s) = (ptsOf s).map f := by
  have hr := nm_range s.v
  have e : nm s.v ≤ 0 ∨ nm s.v = 1 ∨ nm s.v = 2 ∨ nm s.v = 3 := by omega
  unfold ptsOf flipS
  rw [part_v]
  rcases e with e | e | e | e
  · rw [show (nm s.v).toNat = 0 by omega]; rfl
  · rw [show (nm s.v).toNat = 1 by omega]; rfl
  · rw [show (nm s.v).toNat = 2 by omega]; rfl
  · rw [show (nm s.v).toNat = 3 by omega]; rfl
theorem map_pts (f : Pt → Pt) (l : List Sg) : allPts (l.map (flipS f)) = (allPts l).map f := by
  induction l with
  | nil => rfl
  | cons s r ih =>
    have e1 : allPts ((s :: r).map (flipS f)) = ptsOf (flipS f s) ++ allPts (r.map (flipS f)) := rfl
    have e2 : allPts (s :: r) = ptsOf s ++ allPts r := rfl
    rw [e1, e2, ih, flipS_pts, List.map_append]

theorem bnd_in {q : List Pt} {p : Pt} (h : p ∈ q) : ((bnd mnP q).x ≤ p.x ∧ (bnd mnP q).y ≤ p.y) ∧ p.x ≤ (bnd mxP q).x ∧ p.y ≤ (bnd mxP q).y := by
  cases q with
  | nil => cases h
  | cons a r =>
    obtain ⟨_, h2, _⟩ := fold_mn (a :: r) a
    obtain ⟨_, k2, _⟩ := fold_mx (a :: r) a
    exact ⟨h2 p h, k2 p h⟩
theorem bnd_hit {q : List Pt} (h : q ≠ []) : (∃ p ∈ q, (bnd mnP q).x = p.x) ∧ (∃ p ∈ q, (bnd mnP q).y = p.y) ∧ (∃ p ∈ q, (bnd mxP q).x = p.x) ∧ ∃ p ∈ q, (bnd mxP q).y = p.y := by
  cases q with
  | nil => exact absurd rfl h
  | cons a r =>
    obtain ⟨_, _, h3, h4⟩ := fold_mn (a :: r) a
    obtain ⟨_, _, k3, k4⟩ := fold_mx (a :: r) a
    exact ⟨h3.elim (fun h => ⟨a, .head _, h⟩) id, h4.elim (fun h => ⟨a, .head _, h⟩) id, k3.elim (fun h => ⟨a, .head _, h⟩) id, k4.elim (fun h => ⟨a, .head _, h⟩) id⟩
theorem bnd_flip (b : Bool) (q : List Pt) : bnd mnP (q.map (flipP b (bnd mnP q) (bnd mxP q))) = bnd mnP q ∧ bnd mxP (q.map (flipP b (bnd mnP q) (bnd mxP q))) = bnd mxP q := by
  by_cases h : q = []
  · subst h; exact ⟨rfl, rfl⟩
  obtain ⟨⟨p1, i1, e1⟩, ⟨p2, i2, e2⟩, ⟨p3, i3, e3⟩, ⟨p4, i4, e4⟩⟩ := bnd_hit h
  have low := fun p hp => bnd_in (q := q) (p := p) hp
  generalize bnd mnP q = lo at *
  generalize bnd mxP q = hi at *
  have h' : q.map (flipP b lo hi) ≠ [] := by simpa using h
  obtain ⟨⟨r1, j1, f1⟩, ⟨r2, j2, f2⟩, ⟨r3, j3, f3⟩, ⟨r4, j4, f4⟩⟩ := bnd_hit h'
  have low' : ∀ p ∈ q, ((bnd mnP (q.map (flipP b lo hi))).x ≤ (flipP b lo hi p).x ∧ (bnd mnP (q.map (flipP b lo hi))).y ≤ (flipP b lo hi p).y) ∧ (flipP b lo hi p).x ≤ (bnd mxP (q.map (flipP b lo hi))).x ∧ (flipP b lo hi p).y ≤ (bnd mxP (q.map (flipP b lo hi))).y :=
    fun p hp => bnd_in (List.mem_map.2 ⟨p, hp, rfl⟩)
  generalize bnd mnP (q.map (flipP b lo hi)) = lo' at *
  generalize bnd mxP (q.map (flipP b lo hi)) = hi' at *
  obtain ⟨s1, k1, rfl⟩ := List.mem_map.1 j1
  obtain ⟨s2, k2, rfl⟩ := List.mem_map.1 j2
  obtain ⟨s3, k3, rfl⟩ := List.mem_map.1 j3
  obtain ⟨s4, k4, rfl⟩ := List.mem_map.1 j4
  have a1 := low s1 k1
  have a2 := low s2 k2
  have a3 := low s3 k3
  have a4 := low s4 k4
  have b1 := low' p1 i1
  have b2 := low' p2 i2
  have b3 := low' p3 i3
  have b4 := low' p4 i4
  cases b
  · have x : ∀ p, (flipP false lo hi p).x = lo.x + hi.x - p.x := fun _ => rfl
    have y : ∀ p, (flipP false lo hi p).y = p.y := fun _ => rfl
    rw [x] at f1 f3 b1 b2 b3 b4
    rw [y] at f2 f4 b1 b2 b3 b4
    exact ⟨pt_ext (by omega) (by omega), pt_ext (by omega) (by omega)⟩
  · have x : ∀ p, (flipP true lo hi p).x = p.x := fun _ => rfl
    have y : ∀ p, (flipP true lo hi p).y = lo.y + hi.y - p.y := fun _ => rfl
    rw [x] at f1 f3 b1 b2 b3 b4
    rw [y] at f2 f4 b1 b2 b3 b4
    exact ⟨pt_ext (by omega) (by omega), pt_ext (by omega) (by omega)⟩

theorem flip_ok {b : Bool} {q : List Pt} {p : Pt} (hq : ∀ r ∈ q, ptOK r) (hp : p ∈ q) : ptOK (flipP b (bnd mnP q) (bnd mxP q) p) := by
  have h1 := bnd_ok (f := mnP) (fun _ _ => mn_ok) hq
  have h2 := bnd_ok (f := mxP) (fun _ _ => mx_ok) hq
  have h3 := bnd_in hp
  have h4 := hq p hp
  unfold ptOK at *
  cases b
  · show (_ ≤ (bnd mnP q).x + (bnd mxP q).x - p.x ∧ (bnd mnP q).x + (bnd mxP q).x - p.x ≤ _) ∧ (_ ≤ p.y ∧ p.y ≤ _); omega
  · show (_ ≤ p.x ∧ p.x ≤ _) ∧ (_ ≤ (bnd mnP q).y + (bnd mxP q).y - p.y ∧ (bnd mnP q).y + (bnd mxP q).y - p.y ≤ _); omega
theorem flipS_fits {f : Pt → Pt} {s : Sg} (hf : fits s) (h : ∀ p ∈ ptsOf s, ptOK (f p)) : fits (flipS f s) := by
  have hr := nm_range s.v
  obtain ⟨h1, h2, h3⟩ := hf
  have mem : ∀ (j : Nat) (p : Pt), (j : Int) < nm s.v → [s.a, s.b, s.c][j]? = some p → p ∈ ptsOf s := fun j p hj hp => List.mem_of_getElem? (i := j) (by rw [pts_at hj]; exact hp)
  unfold flipS
  refine ⟨?_, ?_, ?_⟩ <;> rw [part_v]
  · show pk _ 0 (if 1 ≤ (nm s.v).toNat then f s.a else s.a)
    by_cases e : 1 ≤ (nm s.v).toNat
    · rw [if_pos e]; exact ⟨h _ (mem 0 s.a (by omega) rfl), fun k => by omega⟩
    · rw [if_neg e]; exact h1
  · show pk _ 1 (if 2 ≤ (nm s.v).toNat then f s.b else s.b)
    by_cases e : 2 ≤ (nm s.v).toNat
    · rw [if_pos e]; exact ⟨h _ (mem 1 s.b (by omega) rfl), fun k => by omega⟩
    · rw [if_neg e]; exact h2
  · show pk _ 2 (if 3 ≤ (nm s.v).toNat then f s.c else s.c)
    by_cases e : 3 ≤ (nm s.v).toNat
    · rw [if_pos e]; exact ⟨h _ (mem 2 s.c (by omega) rfl), fun k => by omega⟩
    · rw [if_neg e]; exact h3
theorem map_oks {f : Pt → Pt} : ∀ {l : List Sg} {last : Int}, (∀ s ∈ l, ∀ p ∈ ptsOf s, ptOK (f p)) → oks last l → oks last (l.map (flipS f))
  | [], _, _, _ => trivial
  | s :: r, last, hp, h => by
    obtain ⟨h1, h2⟩ := h
    obtain ⟨k1, k2, k3⟩ := errAt_zero.1 h1
    refine ⟨errAt_zero.2 ⟨k1, k2, flipS_fits k3 (hp s (.head _))⟩, map_oks (fun t ht => hp t (.tail _ ht)) h2⟩
theorem flipL_valid {b : Bool} {l : List Sg} (h : valid l) : valid (flipL b l) := by
  refine valid_iff.2 ⟨by unfold flipL; rw [List.length_map]; exact valid_len h, ?_⟩
  exact map_oks (fun s hs p hp => flip_ok (pts_ok h) (List.mem_flatMap.2 ⟨s, hs, hp⟩)) (valid_iff.1 h).2
theorem flipL_pts (b : Bool) (l : List Sg) : bnd mnP (allPts (flipL b l)) = bnd mnP (allPts l) ∧ bnd mxP (allPts (flipL b l)) = bnd mxP (allPts l) := by
  unfold flipL; rw [map_pts]; exact bnd_flip b (allPts l)
theorem flipL_inv (b : Bool) (l : List Sg) : flipL b (flipL b l) = l := by
  obtain ⟨h1, h2⟩ := flipL_pts b l
  conv => lhs; unfold flipL
  have e : flipL b l = l.map (flipS (flipP b (bnd mnP (allPts l)) (bnd mxP (allPts l)))) := rfl
  rw [← e, h1, h2, e, List.map_map]
  conv => rhs; rw [← List.map_id l]
  exact List.map_congr_left fun s _ => flipS_inv b _ _ s
theorem flipL_some {b : Bool} {l : List Sg} (h : valid l) : some? (flipL b l) ↔ some? l := by
  unfold some?
  have : allPts (flipL b l) ≠ [] ↔ allPts l ≠ [] := by unfold flipL; rw [map_pts]; simp
  exact ⟨fun k => ⟨h, this.1 k.2⟩, fun k => ⟨flipL_valid h, this.2 k.2⟩⟩

theorem addSub_map (f : Pt → Pt) (S : List (List Sg)) (x : Sg) : addSub (S.map (List.map (flipS f))) (flipS f x) = (addSub S x).map (List.map (flipS f)) := by
  unfold addSub
  by_cases hv : x.v = 1
  · rw [if_pos hv, if_pos (show (flipS f x).v = 1 from hv)]; simp
  · rw [if_neg hv, if_neg (show ¬ (flipS f x).v = 1 from hv)]
    rcases List.eq_nil_or_concat S with rfl | ⟨A, g, rfl⟩
    · rfl
    · simp
theorem subs_map (f : Pt → Pt) (l : List Sg) : subs (l.map (flipS f)) = (subs l).map (List.map (flipS f)) := by
  have key : ∀ (r : List Sg) (S : List (List Sg)), (r.map (flipS f)).foldl addSub (S.map (List.map (flipS f))) = (r.foldl addSub S).map (List.map (flipS f)) := by
    intro r
    induction r with
    | nil => intro S; rfl
    | cons x r ih => intro S; rw [List.map_cons, List.foldl_cons, List.foldl_cons, addSub_map, ih]
  exact key l []
theorem endP_flip {f : Pt → Pt} {s : Sg} (h : 1 ≤ nm s.v) : endP (flipS f s) = f (endP s) := by
  have hr := nm_range s.v
  have e : nm s.v = 1 ∨ nm s.v = 2 ∨ nm s.v = 3 := by omega
  unfold endP flipS
  rw [part_v]
  rcases e with e | e | e <;> rw [e] <;> rfl
theorem back_flip {f : Pt → Pt} {s : Sg} (h : midV s) (e : Pt) : backS (flipS f s) (f e) = flipS f (backS s e) := by
  obtain ⟨v, a, b, c⟩ := s
  rcases h with h | h | h <;> (dsimp only at h; subst h; rfl)
theorem backs_flip {f : Pt → Pt} : ∀ (r : List Sg) (p : Sg), 1 ≤ nm p.v → (∀ s ∈ r, midV s) → backs (flipS f p) (r.map (flipS f)) = (backs p r).map (flipS f)
  | [], _, _, _ => rfl
  | s :: r, p, hp, h => by
    have hs := h s (.head _)
    show backs (flipS f s) (r.map (flipS f)) ++ [backS (flipS f s) (endP (flipS f p))] = _
    rw [backs_flip r s (verb_nm (.inr hs)).1 (fun t ht => h t (.tail _ ht)), endP_flip hp, back_flip hs]
    show _ = (backs s r ++ [backS s (endP p)]).map (flipS f)
    simp
theorem last_flip {f : Pt → Pt} {m : Sg} {mid : List Sg} (hm : m.v = 1) (h : ∀ s ∈ mid, midV s) : lastE (flipS f m) (mid.map (flipS f)) = f (lastE m mid) := by
  unfold lastE
  rcases List.eq_nil_or_concat mid with rfl | ⟨r, z, rfl⟩
  · exact endP_flip (by show 1 ≤ nm m.v; rw [hm]; decide)
  · rw [List.concat_eq_append] at h ⊢
    have h1 : (r ++ [z]).getLastD m = z := by simp
    have h2 : ((r ++ [z]).map (flipS f)).getLastD (flipS f m) = flipS f z := by simp
    rw [h1, h2]
    exact endP_flip (verb_nm (.inr (h z (by simp)))).1
theorem turnB_flip {f : Pt → Pt} {m : Sg} {mid : List Sg} (hm : m.v = 1) (h : ∀ s ∈ mid, midV s) : turnB ((m :: mid).map (flipS f)) = (turnB (m :: mid)).map (flipS f) := by
  show (⟨1, lastE (flipS f m) (mid.map (flipS f)), zp, zp⟩ : Sg) :: backs (flipS f m) (mid.map (flipS f)) = flipS f ⟨1, lastE m mid, zp, zp⟩ :: (backs m mid).map (flipS f)
  rw [last_flip hm h, backs_flip mid m (by rw [hm]; decide) h]
  rfl
theorem turnG_flip {f : Pt → Pt} {g : List Sg} {k : Int} (h : Grp g k) : turnG (g.map (flipS f)) = (turnG g).map (flipS f) := by
  obtain ⟨m, mid, g1, g2, _, g4⟩ := h
  have g2' : ∀ s ∈ mid.map (flipS f), midV s := fun s hs => by
    obtain ⟨t, ht, rfl⟩ := List.mem_map.1 hs
    exact g2 t ht
  rcases g4 with ⟨rfl, _⟩ | ⟨c, rfl, hc, _⟩
  · rw [turnG_open g1 g2, List.map_cons, turnG_open (m := flipS f m) g1 g2', ← List.map_cons, turnB_flip g1 g2]
  · rw [turnG_closed hc, List.map_append, List.map_cons, List.map_cons, List.map_nil, turnG_closed (c := flipS f c) hc, ← List.map_cons, turnB_flip g1 g2, List.map_append]
    rfl
theorem rev_flip (b : Bool) {l : List Sg} (h : valid l) : flipL b (revL l) = revL (flipL b l) := by
  obtain ⟨e1, e2⟩ := bnd_mem (revL_mem h)
  unfold flipL
  rw [e1, e2]
  unfold revL
  rw [subs_map, List.flatMap_def, List.flatMap_def, List.map_flatten, List.map_map, List.map_map]
  congr 1
  refine List.map_congr_left fun g hg => ?_
  obtain ⟨k, hk⟩ := subs_grp h g hg
  exact (turnG_flip hk).symm

end Go.Gs
