/- A path turned round, the other text; rectangles as paths; the law. -/
import Derived.Test.YtlhelkkfjniioaaGreatPathB
namespace Go.Gs
open Go.Proofs

theorem oks_take : ∀ {l : List Sg} {last : Int} (i : Nat), oks last l → oks last (l.take i)
  | [], _, i, _ => by simp [oks]
  | _ :: _, _, 0, _ => trivial
  | _ :: _, _, i + 1, h => ⟨h.1, oks_take i h.2⟩
theorem grp_take {l : List Sg} (h : valid l) (i : Nat) : ∀ g ∈ subs (l.take i), ∃ k, Grp g k := by
  obtain ⟨k, hk⟩ := inv_all (l.take i) (S := []) (last := 5) (.inl ⟨rfl, rfl⟩) (oks_take i (valid_iff.1 h).2)
  intro g hg
  have hg : g ∈ (l.take i).foldl addSub [] := hg
  rcases hk with ⟨e, _⟩ | ⟨cl, g', e, h1, h2⟩
  · rw [e] at hg; cases hg
  · rw [e] at hg
    rcases List.mem_append.1 hg with hg | hg
    · exact h2 g hg
    · simp at hg; subst hg; exact ⟨_, h1⟩
theorem flat_take_len {l : List Sg} (h : valid l) (i : Nat) : ((subs (l.take i)).flatMap turnG).length ≤ 256 := by
  rw [flatMap_len (grp_take h i), subs_flat, List.length_take]
  have := valid_len h; omega

/-! ### Rectangles -/
def inR (n : Int) : Prop := -4096 ≤ n ∧ n ≤ 4096
instance (n : Int) : Decidable (inR n) := inferInstanceAs (Decidable (_ ∧ _))
def rok (a b c d : Int) : Prop := inR a ∧ inR b ∧ inR c ∧ inR d ∧ a < c ∧ b < d
instance (a b c d : Int) : Decidable (rok a b c d) := inferInstanceAs (Decidable (_ ∧ _))
def rectL (a b c d : Int) : List Sg := if rok a b c d then [⟨1, ⟨a * 256, b * 256⟩, zp, zp⟩, ⟨2, ⟨c * 256, b * 256⟩, zp, zp⟩, ⟨2, ⟨c * 256, d * 256⟩, zp, zp⟩, ⟨2, ⟨a * 256, d * 256⟩, zp, zp⟩, closeS] else []
def reE (a b c d : Int) : List SV := [i64 a, i64 b, i64 c, i64 d]
def intE (n : Int) : List SV := [i64 n]

theorem LE_nil {α : Type} {enc : α → List SV} : LE (.val (.slice none 0 0)) (.sl enc []) := fun S Pm ρ w v hg => by
  rw [hg.val_inv]; exact .d _ _ (.nil enc none)

end Go.Gs
/- Paths joined; a subpath taken out. -/
namespace Go.Gs
open Go.Proofs

def sizes (a b : List Sg) (i : Nat) : Int := if i = 0 then 0 else if i = 1 then a.length else a.length + b.length
def joined (a b : List Sg) (i : Nat) : List Sg := if i = 0 then [] else if i = 1 then a else a ++ b

def app (a b : List Sg) : List Sg × Int := if ¬ (valid a ∧ valid b) then ([], 10) else if 256 < a.length + b.length then ([], 5) else (a ++ b, 0)

end Go.Gs
/- Paths mirrored, both texts. -/
namespace Go.Gs
open Go.Proofs

def flipP (b : Bool) (lo hi p : Pt) : Pt := match b with
  | true => ⟨p.x, lo.y + hi.y - p.y⟩
  | false => ⟨lo.x + hi.x - p.x, p.y⟩
def part (f : Pt → Pt) (j : Nat) (s : Sg) : Sg := ⟨s.v, if 1 ≤ j then f s.a else s.a, if 2 ≤ j then f s.b else s.b, if 3 ≤ j then f s.c else s.c⟩
def flipS (f : Pt → Pt) (s : Sg) : Sg := part f (nm s.v).toNat s
def flipL (b : Bool) (l : List Sg) : List Sg := l.map (flipS (flipP b (bnd mnP (allPts l)) (bnd mxP (allPts l))))
def flp (b : Bool) (l : List Sg) : List Sg × Int := if valid l then (flipL b l, 0) else ([], 10)

theorem part_zero (f : Pt → Pt) (s : Sg) : part f 0 s = s := rfl
theorem pts_ok {l : List Sg} (h : valid l) : ∀ p ∈ allPts l, ptOK p := fun p hp => by
  obtain ⟨s, hs, hp⟩ := List.mem_flatMap.1 hp
  have hf : fits s := by
    have e := subs_flat l
    rw [← e] at hs
    obtain ⟨g, hg, hsg⟩ := List.mem_flatten.1 hs
    obtain ⟨k, m, mid, _, _, g3, _⟩ := subs_grp h g hg
    exact g3 s hsg
  have hp := List.mem_of_mem_take hp
  simp only [List.mem_cons, List.not_mem_nil, or_false] at hp
  rcases hp with rfl | rfl | rfl
  · exact hf.1.1
  · exact hf.2.1.1
  · exact hf.2.2.1
theorem seg_fits {l : List Sg} (h : valid l) {s : Sg} (hs : s ∈ l) : fits s := by
  have e := subs_flat l
  rw [← e] at hs
  obtain ⟨g, hg, hsg⟩ := List.mem_flatten.1 hs
  obtain ⟨k, m, mid, _, _, g3, _⟩ := subs_grp h g hg
  exact g3 s hsg
theorem fold_ok {f : Pt → Pt → Pt} (hf : ∀ p q, ptOK p → ptOK q → ptOK (f p q)) : ∀ (q : List Pt) (p : Pt), ptOK p → (∀ r ∈ q, ptOK r) → ptOK (q.foldl f p)
  | [], _, hp, _ => hp
  | a :: q, p, hp, h => fold_ok hf q (f p a) (hf p a hp (h a (.head _))) fun r hr => h r (.tail _ hr)
theorem bnd_ok {f : Pt → Pt → Pt} (hf : ∀ p q, ptOK p → ptOK q → ptOK (f p q)) {q : List Pt} (h : ∀ r ∈ q, ptOK r) : ptOK (bnd f q) := by
  cases q with
  | nil => exact zp_ok
  | cons a r => exact fold_ok hf (a :: r) a (h a (.head _)) h
theorem mn_ok {p q : Pt} (h1 : ptOK p) (h2 : ptOK q) : ptOK (mnP p q) := by
  unfold ptOK mnP at *; dsimp only; omega
theorem mx_ok {p q : Pt} (h1 : ptOK p) (h2 : ptOK q) : ptOK (mxP p q) := by
  unfold ptOK mxP at *; dsimp only; omega

def us (v : Int) : Int := max (nm v) 0
def flipTo (F : Sg → Sg) (l : List Sg) (i : Nat) : List Sg := (l.take i).map F ++ l.drop i
theorem flipTo_len (F : Sg → Sg) (l : List Sg) (i : Nat) : (flipTo F l i).length = l.length := by unfold flipTo; simp; omega
theorem flipTo_at {F : Sg → Sg} {l : List Sg} {i : Nat} {x : Sg} (h : l[i]? = some x) : (flipTo F l i)[i]? = some x := by
  have hi := (List.getElem?_eq_some_iff.1 h).1
  unfold flipTo
  rw [List.getElem?_append_right (by simp; omega)]
  simp only [List.length_map, List.length_take, List.getElem?_drop]
  rw [← h]; congr 1; omega
theorem set_same {α : Type} {l : List α} {i : Nat} {x : α} (h : l[i]? = some x) : l.set i x = l := by
  refine List.ext_getElem? fun j => ?_
  rw [List.getElem?_set]
  split
  · rename_i e; subst e
    rw [if_pos (List.getElem?_eq_some_iff.1 h).1, h]
  · rfl
theorem flipTo_next {F : Sg → Sg} {l : List Sg} {i : Nat} {x : Sg} (h : l[i]? = some x) : (flipTo F l i).set i (F x) = flipTo F l (i + 1) := by
  have hi := (List.getElem?_eq_some_iff.1 h).1
  unfold flipTo
  rw [List.set_append_right _ _ (by simp; omega), drop_at h, List.take_add_one, h]
  have : i - ((l.take i).map F).length = 0 := by simp; omega
  rw [this]; simp
theorem at_set {α : Type} {L : List α} {i : Nat} {x z : α} (hi : i < L.length) (h : (L.set i x)[i]? = some z) : z = x := by
  rw [List.getElem?_set_self hi] at h; cases h; rfl

def ptrs (i : Nat) : List (List SV) := [[.eloc 3 7 i 1], [.eloc 3 7 i 3], [.eloc 3 7 i 5]]
theorem ptr_ren {i n q : Nat} {x : List SV} {a : Nat} (hx : ((ptrs i).take n)[q]? = some x) : ren.rens [(0, some 0), (1, some 1), (2, some 2), (3, some 3), (4, some a)] x = some x := by
  have := List.mem_of_mem_take (List.mem_of_getElem? hx)
  unfold ptrs at this
  simp only [List.mem_cons, List.not_mem_nil, or_false] at this
  rcases this with rfl | rfl | rfl <;> rfl

end Go.Gs
