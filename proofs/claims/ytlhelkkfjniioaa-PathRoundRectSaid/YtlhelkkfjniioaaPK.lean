/- Paths joined; a subpath taken out. -/
import Derived.Test.YtlhelkkfjniioaaPJ
namespace Go.Gs
open Go.Proofs

theorem c_grow (n : Int) (h0 : 0 ≤ n) (h1 : n ≤ 600) : CallsG Try.prog 84 [.val (.slice none 0 0), i64 n] [] (.own 0) [(0, .arr 62 sgE 7 [])] := by
  refine calls_own tok mix Try.func84 rfl rfl rfl ?_
  refine Br.mk (fun h => absurd h (by omega)) (fun _ => ?_)
  refine Ar.fit (by decide) ?_
  refine Ar.fit (by omega) ?_
  refine Br.mk (fun h => ?_) (fun h => ?_)
  · refine Ob.mk ⟨rfl, rfl, rfl⟩ ?_
    refine ⟨Sg, sgE, ⟨0, zp, zp, zp⟩, rfl, Ob.mk ⟨by decide, h, (by show _ * (56 : Int) ≤ _; omega), by omega⟩ ?_⟩
    refine Sl.keep (Ob.mk ⟨rfl, Int.le_refl _, by omega⟩ ?_)
    exact ⟨some 1, .own _ rfl, rfl, fun _ _ => rfl⟩
  · exact ⟨none, .nil rfl, rfl⟩

def sizes (a b : List Sg) (i : Nat) : Int := if i = 0 then 0 else if i = 1 then a.length else a.length + b.length
def joined (a b : List Sg) (i : Nat) : List Sg := if i = 0 then [] else if i = 1 then a else a ++ b

theorem c_concat (a b : List Sg) (ha : a.length ≤ 256) (hb : b.length ≤ 256) : CallsG Try.prog 59 [.sl slE [a, b]] [] (.own 0) [(0, .arr 62 sgE 7 (a ++ b))] := by
  refine calls_own tok mix Try.func59 rfl rfl rfl ?_
  intro _
  refine ⟨Nat, fun i => ⟨[(11, i64 i), (10, i64 2), (9, .sl slE [a, b]), (3, i64 (sizes a b i)), (0, .sl slE [a, b])], [], 0, 36, 0⟩, fun i => i ≤ 2, fun i => 2 - i, 0, by decide, sub_of [] rfl rfl rfl ⟨rfl, rfl, rfl, rfl, rfl, trivial⟩ trivial, ?_⟩
  rintro i hi
  have hi : i ≤ 2 := hi
  have e : i = 0 ∨ i = 1 ∨ i = 2 := by omega
  rcases e with rfl | rfl | rfl
  · refine Br.mk (fun _ => ?_) (fun h => absurd (by decide) h)
    refine Ob.mk ⟨by decide, by show (0 : Int) < ((2 : Nat) : Int); decide⟩ ?_
    intro g hg
    have hg : some a = some g := hg
    cases hg
    intro _
    have hs : sizes a b 0 = 0 := rfl
    refine Ar.fit (by omega) ?_
    refine Br.mk (fun h => absurd h (by omega)) (fun _ => ?_)
    refine Ar.fit (by decide) ?_
    exact ⟨1, by decide, sub_of [] rfl rfl rfl ⟨rfl, rfl, rfl, congrArg (fun n => some (i64 n)) (show sizes a b 0 + (a.length : Int) = a.length by omega), rfl, trivial⟩ trivial, by decide⟩
  · refine Br.mk (fun _ => ?_) (fun h => absurd (by decide) h)
    refine Ob.mk ⟨by decide, by show (1 : Int) < ((2 : Nat) : Int); decide⟩ ?_
    intro g hg
    have hg : some b = some g := hg
    cases hg
    intro _
    have hs : sizes a b 1 = a.length := rfl
    refine Ar.fit (by omega) ?_
    refine Br.mk (fun h => absurd h (by omega)) (fun _ => ?_)
    refine Ar.fit (by decide) ?_
    exact ⟨2, by decide, sub_of [] rfl rfl rfl ⟨rfl, rfl, rfl, congrArg (fun n => some (i64 n)) (show sizes a b 1 + (b.length : Int) = a.length + b.length by omega), rfl, trivial⟩ trivial, by decide⟩
  · refine Br.mk (fun h => absurd h (by decide)) (fun _ => ?_)
    refine CallV.fresh _ _ (c_grow (sizes a b 2) (by show 0 ≤ (a.length : Int) + b.length; omega) (by show (a.length : Int) + b.length ≤ 600; omega)) rfl (sg_flat _) (.inl rfl) ?_
    intro _
    refine ⟨Nat, fun i => ⟨[(27, i64 i), (26, i64 2), (25, .sl slE [a, b]), (6, .own 0)], [(0, .arr 62 sgE 7 (joined a b i))], 1, 36, 0⟩, fun i => i ≤ 2, fun i => 2 - i, 0, by decide, sub_of [(0, some 0)] rfl rfl rfl ⟨rfl, rfl, rfl, rfl, trivial⟩ ⟨rfl, trivial⟩, ?_⟩
    rintro i hi
    have hi : i ≤ 2 := hi
    have e : i = 0 ∨ i = 1 ∨ i = 2 := by omega
    rcases e with rfl | rfl | rfl
    · refine Br.mk (fun _ => ?_) (fun h => absurd (by decide) h)
      refine Ob.mk ⟨by decide, by show (0 : Int) < ((2 : Nat) : Int); decide⟩ ?_
      intro g hg
      have hg : some a = some g := hg
      cases hg
      have hs : (joined a b 0).length = 0 := rfl
      refine ⟨a, rfl, Ob.mk ⟨(by show _ * (56 : Int) ≤ _; omega), (by omega), by decide, fun _ _ => rfl⟩ ?_⟩
      refine Ar.fit (by decide) ?_
      exact ⟨1, by decide, sub_of [(0, some 1)] rfl rfl rfl ⟨rfl, rfl, rfl, rfl, trivial⟩ ⟨congrArg (fun q => some (Mem.arr 62 sgE 7 q)) (show joined a b 0 ++ a = joined a b 1 from rfl), trivial⟩, by decide⟩
    · refine Br.mk (fun _ => ?_) (fun h => absurd (by decide) h)
      refine Ob.mk ⟨by decide, by show (1 : Int) < ((2 : Nat) : Int); decide⟩ ?_
      intro g hg
      have hg : some b = some g := hg
      cases hg
      have hs : (joined a b 1).length = a.length := rfl
      refine ⟨b, rfl, Ob.mk ⟨(by show _ * (56 : Int) ≤ _; omega), (by omega), by decide, fun _ _ => rfl⟩ ?_⟩
      refine Ar.fit (by decide) ?_
      exact ⟨2, by decide, sub_of [(0, some 1)] rfl rfl rfl ⟨rfl, rfl, rfl, rfl, trivial⟩ ⟨congrArg (fun q => some (Mem.arr 62 sgE 7 q)) (show joined a b 1 ++ b = joined a b 2 from rfl), trivial⟩, by decide⟩
    · refine Br.mk (fun h => absurd h (by decide)) (fun _ => ?_)
      exact ⟨some 0, .own _ rfl, rfl, fun _ _ => rfl⟩

def app (a b : List Sg) : List Sg × Int := if ¬ (valid a ∧ valid b) then ([], 10) else if 256 < a.length + b.length then ([], 5) else (a ++ b, 0)

theorem c_append (a b : List Sg) : CallsG Try.prog 29 [.sl sgE a, .sl sgE b] [] (lstR (app a b)) [(0, .arr 62 sgE 7 (app a b).1)] := by
  generalize hc : app a b = c
  refine calls_own tok mix Try.func29 rfl rfl rfl ?_
  have bad : ∀ {e : Int}, c = ([], e) → ∃ k, Take k (.tup [.val (.slice none 0 0), i64 e]) (lstR c) ∧ takeM ([] : List (Nat × Mem)) k (.arr 62 sgE 7 c.1) := fun h => by
    subst h
    exact ⟨none, take_tup (.cons (.nil rfl) (.cons (take_int rfl) .nil)), rfl⟩
  refine CallV.to _ (c_valid a) rfl ?_
  refine Br.mk (fun h => bad (by rw [← hc]; unfold app; rw [if_pos (fun k => h k.1)])) (fun h => ?_)
  have h := Decidable.not_not.1 h
  refine CallV.to _ (c_valid b) rfl ?_
  refine Br.mk (fun h2 => bad (by rw [← hc]; unfold app; rw [if_pos (fun k => h2 k.2)])) (fun h2 => ?_)
  have h2 := Decidable.not_not.1 h2
  have ha := valid_len h
  have hb := valid_len h2
  intro _ _
  refine Ar.fit (by omega) ?_
  refine Br.mk (fun h3 => bad (by rw [← hc]; unfold app; rw [if_neg (fun k => k ⟨h, h2⟩), if_pos (by omega)])) (fun h3 => ?_)
  have hc' : c = (a ++ b, 0) := by rw [← hc]; unfold app; rw [if_neg (fun k => k ⟨h, h2⟩), if_neg (by omega)]
  clear bad hc
  subst hc'
  refine ⟨List Sg, slE, [a, b], rfl, Ob.mk ⟨rfl, by decide, by decide, by decide, fun x _ => ⟨rfl, rfl, rfl⟩⟩ ?_⟩
  refine CallV.fresh _ _ (c_concat a b ha hb) rfl (sg_flat _) (.inr (sg_scalar _)) ?_
  exact ⟨some 1, take_tup (.cons (.own _ rfl) (.cons (take_int rfl) .nil)), rfl, fun _ _ => rfl⟩

theorem c_append' (a b : List Sg) : CallsG Try.prog 30 [.sl sgE a, .sl sgE b] [] (lstR (app a b)) [(0, .arr 62 sgE 7 (app a b).1)] := by
  generalize hc : app a b = c
  refine calls_own tok mix Try.func30 rfl rfl rfl ?_
  have bad : ∀ {e : Int}, c = ([], e) → ∃ k, Take k (.tup [.val (.slice none 0 0), i64 e]) (lstR c) ∧ takeM ([] : List (Nat × Mem)) k (.arr 62 sgE 7 c.1) := fun h => by
    subst h
    exact ⟨none, take_tup (.cons (.nil rfl) (.cons (take_int rfl) .nil)), rfl⟩
  refine CallV.to _ (c_valid' a) rfl ?_
  refine Br.mk (fun h => bad (by rw [← hc]; unfold app; rw [if_pos (fun k => h k.1)])) (fun h => ?_)
  have h := Decidable.not_not.1 h
  refine CallV.to _ (c_valid' b) rfl ?_
  refine Br.mk (fun h2 => bad (by rw [← hc]; unfold app; rw [if_pos (fun k => h2 k.2)])) (fun h2 => ?_)
  have h2 := Decidable.not_not.1 h2
  have ha := valid_len h
  have hb := valid_len h2
  intro _ _
  refine Ar.fit (by omega) ?_
  refine Br.mk (fun h3 => bad (by rw [← hc]; unfold app; rw [if_neg (fun k => k ⟨h, h2⟩), if_pos (by omega)])) (fun h3 => ?_)
  have hc' : c = (a ++ b, 0) := by rw [← hc]; unfold app; rw [if_neg (fun k => k ⟨h, h2⟩), if_neg (by omega)]
  clear bad hc
  subst hc'
  refine ⟨Sg, sgE, [], rfl, Ob.mk ⟨rfl, by decide, by decide, by decide, fun x hx => by cases hx⟩ ?_⟩
  refine ⟨Nat, fun i => ⟨[(7, i64 i), (6, .own 0), (0, .sl sgE a), (1, .sl sgE b)], [(0, .arr 62 sgE 7 (a.take i))], 1, 51, 0⟩, fun i => i ≤ a.length, fun i => a.length - i, 0, Nat.zero_le _, sub_of [(0, some 0)] rfl rfl rfl ⟨rfl, rfl, rfl, rfl, trivial⟩ ⟨rfl, trivial⟩, ?_⟩
  rintro i hi
  have hi : i ≤ a.length := hi
  intro _
  refine Br.mk (fun g1 => ?_) (fun g1 => ?_)
  · refine Ob.mk ⟨by omega, g1⟩ ?_
    intro x hx
    have hx : a[i]? = some x := hx
    have htl : (a.take i).length ≤ 256 := by rw [List.length_take]; omega
    refine ⟨Sg, sgE, [x], rfl, Ob.mk ⟨rfl, by decide, by decide, by decide, fun x _ => ⟨rfl, rfl, rfl⟩⟩ ?_⟩
    refine ⟨[x], rfl, Ob.mk ⟨(by show _ * (56 : Int) ≤ _; simp only [List.length_cons, List.length_nil]; omega), (by simp only [List.length_cons, List.length_nil]; omega), by decide, fun _ _ => rfl⟩ ?_⟩
    refine Ar.fit (by omega) ?_
    exact ⟨i + 1, by show i + 1 ≤ _; omega, sub_of [(0, some 2)] rfl rfl rfl ⟨rfl, rfl, rfl, rfl, trivial⟩ ⟨congrArg (fun q => some (Mem.arr 62 sgE 7 q)) (by rw [List.take_add_one, hx]; rfl), trivial⟩, by dsimp only; omega⟩
  · have hia : i = a.length := by omega
    refine ⟨Nat, fun i => ⟨[(8, i64 i), (6, .own 0), (0, .sl sgE a), (1, .sl sgE b)], [(0, .arr 62 sgE 7 (a ++ b.take i))], 1, 51, 0⟩, fun i => i ≤ b.length, fun i => b.length - i, 0, Nat.zero_le _, sub_of [(0, some 0)] rfl rfl rfl ⟨rfl, rfl, rfl, rfl, trivial⟩ ⟨congrArg (fun q => some (Mem.arr 62 sgE 7 q)) (by rw [hia, List.take_length]; simp), trivial⟩, ?_⟩
    rintro i hi
    have hi : i ≤ b.length := hi
    intro _
    refine Br.mk (fun g1 => ?_) (fun g1 => ?_)
    · refine Ob.mk ⟨by omega, g1⟩ ?_
      intro x hx
      have hx : b[i]? = some x := hx
      have htl : (a ++ b.take i).length ≤ 512 := by rw [List.length_append, List.length_take]; omega
      refine ⟨Sg, sgE, [x], rfl, Ob.mk ⟨rfl, by decide, by decide, by decide, fun x _ => ⟨rfl, rfl, rfl⟩⟩ ?_⟩
      refine ⟨[x], rfl, Ob.mk ⟨(by show _ * (56 : Int) ≤ _; simp only [List.length_cons, List.length_nil]; omega), (by simp only [List.length_cons, List.length_nil]; omega), by decide, fun _ _ => rfl⟩ ?_⟩
      refine Ar.fit (by omega) ?_
      exact ⟨i + 1, by show i + 1 ≤ _; omega, sub_of [(0, some 2)] rfl rfl rfl ⟨rfl, rfl, rfl, rfl, trivial⟩ ⟨congrArg (fun q => some (Mem.arr 62 sgE 7 q)) (by rw [List.take_add_one, hx, List.append_assoc]; rfl), trivial⟩, by dsimp only; omega⟩
    · exact ⟨some 0, take_tup (.cons (.own _ rfl) (.cons (take_int rfl) .nil)), congrArg (fun q => some (Mem.arr 62 sgE 7 q)) (by rw [List.take_of_length_le (by omega)]), fun _ _ => rfl⟩

theorem c_cloneS (q : List Sg) (hq : q.length ≤ 256) : CallsG Try.prog 55 [.sl sgE q] [] (.own 0) [(0, .arr 62 sgE 7 q)] := by
  refine calls_own tok mix Try.func55 rfl rfl rfl ?_
  by_cases h0 : q = []
  · refine NilC.any (Br.mk ?_ ?_)
    · exact ⟨none, .nil rfl, h0⟩
    · refine ⟨Sg, sgE, [], rfl, Ob.mk ⟨rfl, by decide, by decide, by decide, fun x hx => by cases hx⟩ ?_⟩
      refine ⟨q, rfl, Ob.mk ⟨(by show _ * (56 : Int) ≤ _; simp only [List.length_nil]; omega), (by simp only [List.length_nil]; omega), by decide, fun _ _ => rfl⟩ ?_⟩
      exact ⟨some 1, .own _ rfl, rfl, fun _ _ => rfl⟩
  · refine NilC.some (fun h => h0 (List.eq_nil_of_length_eq_zero h)) ?_
    refine ⟨Sg, sgE, [], rfl, Ob.mk ⟨rfl, by decide, by decide, by decide, fun x hx => by cases hx⟩ ?_⟩
    refine ⟨q, rfl, Ob.mk ⟨(by show _ * (56 : Int) ≤ _; simp only [List.length_nil]; omega), (by simp only [List.length_nil]; omega), by decide, fun _ _ => rfl⟩ ?_⟩
    exact ⟨some 1, .own _ rfl, rfl, fun _ _ => rfl⟩

end Go.Gs
