/- A path turned round, the other text; rectangles as paths; the law. -/
import Derived.Test.YtlhelkkfjniioaaPJ
namespace Go.Gs
open Go.Proofs

theorem oks_take : ∀ {l : List Sg} {last : Int} (i : Nat), oks last l → oks last (l.take i)
  | [], _, i, _ => by simp [oks]
  | _ :: _, _, 0, _ => trivial
  | _ :: _, _, i + 1, h => ⟨h.1, oks_take i h.2⟩
theorem grp_take {l : List Sg} (h : valid l) (i : Nat) : ∀ g ∈ subs (l.take i), ∃ k, Grp g k := by
  obtain ⟨k, hk⟩ := inv_all (l.take i) (S := []) (last := 5) (.inl ⟨rfl, rfl⟩) (oks_take i (valid_iff.1 h).2)
  intro g hg
  have hg : g ∈ (l.take i).foldl addSub [] := hg
  rcases hk with ⟨e, _⟩ | ⟨cl, g', e, h1, h2⟩
  · rw [e] at hg; cases hg
  · rw [e] at hg
    rcases List.mem_append.1 hg with hg | hg
    · exact h2 g hg
    · simp at hg; subst hg; exact ⟨_, h1⟩
theorem flat_take_len {l : List Sg} (h : valid l) (i : Nat) : ((subs (l.take i)).flatMap turnG).length ≤ 256 := by
  rw [flatMap_len (grp_take h i), subs_flat, List.length_take]
  have := valid_len h; omega

theorem c_reverse' (l : List Sg) : CallsG Try.prog 24 [.sl sgE l] [] (lstR (rev l)) [(0, .arr 62 sgE 7 (rev l).1)] := by
  generalize hc : rev l = c
  refine calls_own tok mix Try.func24 rfl rfl rfl ?_
  refine CallV.to _ (c_valid' l) rfl ?_
  refine Br.mk (fun h => ?_) (fun h => ?_)
  · have : c = ([], 10) := by rw [← hc]; exact if_neg h
    subst this
    exact ⟨none, take_tup (.cons (.nil rfl) (.cons (take_int rfl) .nil)), rfl⟩
  have h := Decidable.not_not.1 h
  have : c = (revL l, 0) := by rw [← hc]; exact if_pos h
  subst this
  clear hc
  have hvl := valid_len h
  refine ⟨Sg, sgE, [], rfl, Ob.mk ⟨rfl, by decide, by decide, by decide, fun x hx => by cases hx⟩ ?_⟩
  refine ⟨Nat × Nat, fun q => ⟨[(6, i64 q.1), (5, i64 q.2), (4, .own 0), (0, .sl sgE l)], [(0, .arr 62 sgE 7 ((subs (l.take q.2)).flatMap turnG))], 1, 38, 0⟩,
    fun q => q.2 < q.1 ∧ q.1 ≤ l.length + 1 ∧ (q.1 ≤ l.length → subs (l.take q.1) = subs (l.take q.2) ++ [(l.drop q.2).take (q.1 - q.2)]) ∧ (q.1 = l.length + 1 → q.2 = l.length), fun q => l.length + 1 - q.1, (1, 0), ?_, ?_, ?_⟩
  · refine ⟨by decide, by show 1 ≤ l.length + 1; omega, fun h1 => ?_, fun h1 => ?_⟩
    · have h1 : 1 ≤ l.length := h1
      cases l with
      | nil => simp at h1
      | cons x r =>
        show addSub [] x = [[x]]
        unfold addSub; rw [if_pos (valid_first h x rfl)]; rfl
    · have h1 : 1 = l.length + 1 := h1
      show 0 = l.length; omega
  · exact sub_of [(0, some 0)] rfl rfl rfl ⟨rfl, rfl, rfl, rfl, trivial⟩ ⟨rfl, trivial⟩
  rintro ⟨i, fr⟩ ⟨k1, k2, k3, k4⟩
  have k1 : fr < i := k1
  have k2 : i ≤ l.length + 1 := k2
  have k3 : i ≤ l.length → subs (l.take i) = subs (l.take fr) ++ [(l.drop fr).take (i - fr)] := k3
  have k4 : i = l.length + 1 → fr = l.length := k4
  intro _
  refine Br.mk (fun h1 => ?_) (fun h1 => ?_)
  · have h1 : (i : Int) ≤ l.length := h1
    have hS := k3 (by omega)
    have hraw : (l.drop ((fr : Nat) : Int).toNat).take (((i : Nat) : Int) - ((fr : Nat) : Int)).toNat = (l.drop fr).take (i - fr) := by
      rw [Int.toNat_natCast, show (((i : Nat) : Int) - ((fr : Nat) : Int)).toNat = i - fr by omega]
    obtain ⟨k, hk⟩ := grp_take h i ((l.drop fr).take (i - fr)) (by rw [hS]; simp)
    rw [← hraw] at hk
    have hgl : ((l.drop ((fr : Nat) : Int).toNat).take (((i : Nat) : Int) - ((fr : Nat) : Int)).toNat).length ≤ 256 := by rw [hraw]; simp; omega
    have ct := c_turned' _ k hk hgl
    have h2 := flat_take_len h fr
    have h3 := turnG_len hk
    have hflat : (subs (l.take fr)).flatMap turnG ++ turnG ((l.drop ((fr : Nat) : Int).toNat).take (((i : Nat) : Int) - ((fr : Nat) : Int)).toNat) = (subs (l.take i)).flatMap turnG := by
      rw [hS, hraw]; simp [List.flatMap_append]
    intro _
    refine Br.mk (fun h4 => ?_) (fun h4 => ?_)
    · have h4 : (i : Int) = l.length := h4
      refine Ob.mk ⟨⟨by dsimp only; omega, by dsimp only; omega, by dsimp only; omega, Int.le_refl _⟩, fun _ _ => rfl⟩ ?_
      refine CallV.fresh _ _ ct rfl (fun _ _ => rfl) (.inl rfl) ?_
      refine ⟨_, rfl, Ob.mk ⟨(by show _ * (56 : Int) ≤ _; dsimp only; omega), (by dsimp only; omega), by decide, fun _ _ => rfl⟩ ?_⟩
      refine Ar.fit (by dsimp only; omega) ?_
      exact ⟨(i + 1, i), ⟨by show i < i + 1; omega, by show i + 1 ≤ _; omega, fun h5 => (by have h5 : i + 1 ≤ l.length := h5; omega), fun _ => by show i = l.length; omega⟩,
        sub_of [(0, some 2)] rfl rfl rfl ⟨rfl, rfl, rfl, rfl, trivial⟩ ⟨congrArg (fun q => some (Mem.arr 62 sgE 7 q)) hflat, trivial⟩, by show l.length + 1 - (i + 1) < l.length + 1 - i; omega⟩
    · have h4 : ¬ (i : Int) = l.length := h4
      have hy := List.getElem?_eq_getElem (show i < l.length by omega)
      generalize l[i]'(by omega) = y at hy
      have hsu := subs_take hy
      refine Ob.mk ⟨by dsimp only; omega, by dsimp only; omega⟩ ?_
      intro z hz
      have hz : l[i]? = some z := hz
      rw [hy] at hz; cases hz
      refine Br.mk (fun h5 => ?_) (fun h5 => ?_)
      · refine Ob.mk ⟨⟨by dsimp only; omega, by dsimp only; omega, by dsimp only; omega, Int.le_refl _⟩, fun _ _ => rfl⟩ ?_
        refine CallV.fresh _ _ ct rfl (fun _ _ => rfl) (.inl rfl) ?_
        refine ⟨_, rfl, Ob.mk ⟨(by show _ * (56 : Int) ≤ _; dsimp only; omega), (by dsimp only; omega), by decide, fun _ _ => rfl⟩ ?_⟩
        refine Ar.fit (by dsimp only; omega) ?_
        exact ⟨(i + 1, i), ⟨by show i < i + 1; omega, by show i + 1 ≤ _; omega, fun _ => (by
            show subs (l.take (i + 1)) = subs (l.take i) ++ [(l.drop i).take (i + 1 - i)]
            rw [hsu, show i + 1 - i = 1 by omega, drop_at hy]; unfold addSub; rw [if_pos h5]; rfl), fun h6 => (by have h6 : i + 1 = l.length + 1 := h6; omega)⟩,
          sub_of [(0, some 2)] rfl rfl rfl ⟨rfl, rfl, rfl, rfl, trivial⟩ ⟨congrArg (fun q => some (Mem.arr 62 sgE 7 q)) hflat, trivial⟩, by show l.length + 1 - (i + 1) < l.length + 1 - i; omega⟩
      · refine Ar.fit (by dsimp only; omega) ?_
        exact ⟨(i + 1, fr), ⟨by show fr < i + 1; omega, by show i + 1 ≤ _; omega, fun _ => (by
            show subs (l.take (i + 1)) = subs (l.take fr) ++ [(l.drop fr).take (i + 1 - fr)]
            have hdr : (l.drop fr)[i - fr]? = some y := by rw [List.getElem?_drop, show fr + (i - fr) = i by omega]; exact hy
            rw [hsu, hS, show i + 1 - fr = (i - fr) + 1 by omega, List.take_add_one, hdr]; unfold addSub; rw [if_neg h5]; simp), fun h6 => (by have h6 : i + 1 = l.length + 1 := h6; omega)⟩,
          sub_of [(0, some 0)] rfl rfl rfl ⟨rfl, rfl, rfl, rfl, trivial⟩ ⟨rfl, trivial⟩, by show l.length + 1 - (i + 1) < l.length + 1 - i; omega⟩
  · have h1 : ¬ (i : Int) ≤ l.length := h1
    have hfr := k4 (by omega)
    exact ⟨some 0, take_tup (.cons (.own _ rfl) (.cons (take_int rfl) .nil)), congrArg (fun q => some (Mem.arr 62 sgE 7 q)) (by show (subs (l.take fr)).flatMap turnG = revL l; rw [hfr, List.take_length]; rfl), fun _ _ => rfl⟩

/-! ### Rectangles -/
def inR (n : Int) : Prop := -4096 ≤ n ∧ n ≤ 4096
instance (n : Int) : Decidable (inR n) := inferInstanceAs (Decidable (_ ∧ _))
def rok (a b c d : Int) : Prop := inR a ∧ inR b ∧ inR c ∧ inR d ∧ a < c ∧ b < d
instance (a b c d : Int) : Decidable (rok a b c d) := inferInstanceAs (Decidable (_ ∧ _))
def rectL (a b c d : Int) : List Sg := if rok a b c d then [⟨1, ⟨a * 256, b * 256⟩, zp, zp⟩, ⟨2, ⟨c * 256, b * 256⟩, zp, zp⟩, ⟨2, ⟨c * 256, d * 256⟩, zp, zp⟩, ⟨2, ⟨a * 256, d * 256⟩, zp, zp⟩, closeS] else []
def reE (a b c d : Int) : List SV := [i64 a, i64 b, i64 c, i64 d]
def intE (n : Int) : List SV := [i64 n]

theorem LE_nil {α : Type} {enc : α → List SV} : LE (.val (.slice none 0 0)) (.sl enc []) := fun S Pm ρ w v hg => by
  rw [hg.val_inv]; exact .d _ _ (.nil enc none)

theorem c_empty (a b c d : Int) : CallsG Try.prog 51 [.agg (reE a b c d)] [] (pr (¬ rok a b c d)) [] := by
  refine calls_to tok mix Try.func51 rfl rfl rfl ?_
  refine ⟨Int, intE, [a, b, c, d], rfl, Ob.mk ⟨rfl, by decide, by decide, by decide, fun x _ => ⟨rfl, rfl, rfl⟩⟩ ?_⟩
  intro _
  refine ⟨Nat, fun i => ⟨[(15, i64 i), (14, i64 4), (13, .own 1), (1, .loc 0 0)], [(1, .arr 3 intE 1 [a, b, c, d]), (0, .box 37 (reE a b c d))], 2, 38, 0⟩,
    fun i => i ≤ 4 ∧ ∀ (j : Nat) n, j < i → [a, b, c, d][j]? = some n → inR n, fun i => 4 - i, 0, ⟨by omega, fun j n hj => by omega⟩, sub_of [(0, some 0), (1, some 1)] rfl rfl rfl ⟨rfl, rfl, rfl, rfl, trivial⟩ ⟨rfl, rfl, trivial⟩, ?_⟩
  rintro i ⟨h1, h2⟩
  refine Br.mk (fun h3 => ?_) (fun h3 => ?_)
  · have h3 : (i : Int) < 4 := h3
    refine Ob.mk ⟨by omega, h3⟩ ?_
    refine Ob.mk ⟨by omega, h3⟩ ?_
    intro n hn
    have hn : [a, b, c, d][i]? = some n := hn
    have out : ¬ inR n → ¬ rok a b c d := fun hr ⟨r1, r2, r3, r4, _⟩ => hr (by
      have : i = 0 ∨ i = 1 ∨ i = 2 ∨ i = 3 := by omega
      rcases this with rfl | rfl | rfl | rfl <;> (cases hn; assumption))
    refine Br.mk (fun h4 => LE_true (out fun h => by have := h.1; omega)) (fun h4 => ?_)
    refine Br.mk (fun h5 => LE_true (out fun h => by have := h.2; omega)) (fun h5 => ?_)
    refine Ar.fit (by omega) ?_
    exact ⟨i + 1, ⟨by omega, fun j m hj hm => by
      by_cases e : j = i
      · subst e; rw [hn] at hm; cases hm; exact ⟨by omega, by omega⟩
      · exact h2 j m (by omega) hm⟩, sub_of [(0, some 0), (1, some 1)] rfl rfl rfl ⟨rfl, rfl, rfl, rfl, trivial⟩ ⟨rfl, rfl, trivial⟩, by dsimp only; omega⟩
  · have h3 : ¬ (i : Int) < 4 := h3
    have h0 := h2 0 a (by omega) rfl
    have h1 := h2 1 b (by omega) rfl
    have h4 := h2 2 c (by omega) rfl
    have h5 := h2 3 d (by omega) rfl
    refine Br.mk (fun h6 => LE_true fun h => by have := h.2.2.2.2.1; omega) (fun h6 => ?_)
    refine LE_pr ⟨fun h7 h => by have := h.2.2.2.2.2; omega, fun h => ?_⟩
    by_cases h8 : d ≤ b
    · exact h8
    · exact absurd ⟨h0, h1, h4, h5, by omega, by omega⟩ h

theorem c_at (x y : Int) (hx : inR x) (hy : inR y) : CallsG Try.prog 52 [i64 x, i64 y] [] (.agg (ptE ⟨x * 256, y * 256⟩)) [] := by
  refine calls_to tok mix Try.func52 rfl rfl rfl ?_
  unfold inR at hx hy
  refine Ar.fit (by omega) ?_
  refine Ar.fit (by omega) ?_
  exact .refl

set_option maxHeartbeats 4000000 in
theorem c_fromRect (a b c d : Int) : CallsG Try.prog 25 [.agg (reE a b c d)] [] (.sl sgE (rectL a b c d)) [] := by
  refine calls_to tok mix Try.func25 rfl rfl rfl ?_
  have fin : ∀ {L : List Sg} {s : SV}, rectL a b c d = L → LE s (.sl sgE L) → LE s (.sl sgE (rectL a b c d)) := fun e h => e ▸ h
  refine CallV.to _ (c_empty a b c d) rfl ?_
  refine Br.mk (fun h => fin (if_neg h) LE_nil) (fun h => ?_)
  have h := Decidable.not_not.1 h
  have hL := show rectL a b c d = _ from if_pos h
  obtain ⟨h1, h2, h3, h4, _⟩ := h
  refine Dr.mk (by decide +kernel) ?_
  refine CallV.to _ (c_at a b h1 h2) rfl ?_
  refine CallV.to _ (c_at c b h3 h2) rfl ?_
  refine CallV.to _ (c_at c d h3 h4) rfl ?_
  refine CallV.to _ (c_at a d h1 h4) rfl ?_
  refine ⟨Sg, sgE, [⟨1, ⟨a * 256, b * 256⟩, zp, zp⟩, ⟨2, ⟨c * 256, b * 256⟩, zp, zp⟩, ⟨2, ⟨c * 256, d * 256⟩, zp, zp⟩, ⟨2, ⟨a * 256, d * 256⟩, zp, zp⟩, closeS], (by kernel_rfl), Ob.mk ⟨rfl, by decide, by decide, by decide, fun x _ => ⟨rfl, rfl, rfl⟩⟩ ?_⟩
  exact fin hL (LE_sl rfl)

theorem c_inR' (n : Int) : CallsG Try.prog 99 [i64 n] [] (pr (inR n)) [] := by
  refine calls_to tok mix Try.func99 rfl rfl rfl ?_
  refine Br.mk (fun h => LE_pr ⟨fun k => ⟨h, k⟩, fun k => k.2⟩) (fun h => LE_false fun k => h k.1)

theorem c_rvalid' (a b c d : Int) : CallsG Try.prog 83 [.agg (reE a b c d)] [] (pr (inR a ∧ inR b ∧ inR c ∧ inR d)) [] := by
  refine calls_to tok mix Try.func83 rfl rfl rfl ?_
  refine CallV.to _ (c_inR' a) rfl ?_
  refine Br.mk (fun h1 => ?_) (fun h1 => LE_false fun k => h1 k.1)
  refine CallV.to _ (c_inR' b) rfl ?_
  refine Br.mk (fun h2 => ?_) (fun h2 => LE_false fun k => h2 k.2.1)
  refine CallV.to _ (c_inR' c) rfl ?_
  refine Br.mk (fun h3 => ?_) (fun h3 => LE_false fun k => h3 k.2.2.1)
  refine CallV.to _ (c_inR' d) rfl ?_
  exact LE_pr ⟨fun h4 => ⟨h1, h2, h3, h4⟩, fun k => k.2.2.2⟩

theorem c_empty' (a b c d : Int) : CallsG Try.prog 53 [.agg (reE a b c d)] [] (pr (¬ rok a b c d)) [] := by
  refine calls_to tok mix Try.func53 rfl rfl rfl ?_
  refine CallV.to _ (c_rvalid' a b c d) rfl ?_
  refine Br.mk (fun h => LE_true fun k => h ⟨k.1, k.2.1, k.2.2.1, k.2.2.2.1⟩) (fun h => ?_)
  obtain ⟨h0, h1, h4, h5⟩ := Decidable.not_not.1 h
  refine Br.mk (fun h6 => LE_true fun h => by have := h.2.2.2.2.1; omega) (fun h6 => ?_)
  refine LE_pr ⟨fun h7 h => by have := h.2.2.2.2.2; omega, fun h => ?_⟩
  by_cases h8 : d ≤ b
  · exact h8
  · exact absurd ⟨h0, h1, h4, h5, by omega, by omega⟩ h

set_option maxHeartbeats 4000000 in
set_option maxRecDepth 100000 in
theorem c_fromRect' (a b c d : Int) : CallsG Try.prog 26 [.agg (reE a b c d)] [] (.sl sgE (rectL a b c d)) [] := by
  refine calls_to tok mix Try.func26 rfl rfl rfl ?_
  have fin : ∀ {L : List Sg} {s : SV}, rectL a b c d = L → LE s (.sl sgE L) → LE s (.sl sgE (rectL a b c d)) := fun e h => e ▸ h
  refine CallV.to _ (c_empty' a b c d) rfl ?_
  refine Br.mk (fun h => ?_) (fun h => ?_)
  · refine ⟨Sg, sgE, [], rfl, Ob.mk ⟨rfl, by decide, by decide, by decide, fun x hx => by cases hx⟩ ?_⟩
    exact fin (if_neg h) .refl
  have h := Decidable.not_not.1 h
  have hL := show rectL a b c d = _ from if_pos h
  obtain ⟨h1, h2, h3, h4, _⟩ := h
  unfold inR at h1 h2 h3 h4
  refine Dr.dyn (Ob.mk (by decide +kernel) ?_)
  refine Ar.fit (by omega) ?_
  refine Ar.fit (by omega) ?_
  refine Ar.fit (by omega) ?_
  refine Ar.fit (by omega) ?_
  refine Ob.mk (by kernel_rfl) ?_
  refine ⟨Sg, sgE, [⟨1, ⟨a * 256, b * 256⟩, zp, zp⟩, ⟨2, ⟨c * 256, b * 256⟩, zp, zp⟩, ⟨2, ⟨c * 256, d * 256⟩, zp, zp⟩, ⟨2, ⟨a * 256, d * 256⟩, zp, zp⟩, closeS], (by kernel_rfl), Ob.mk ⟨rfl, by decide, by decide, by decide, fun x _ => ⟨rfl, rfl, rfl⟩⟩ ?_⟩
  exact fin hL (LE_sl rfl)

set_option maxRecDepth 100000 in
set_option maxHeartbeats 4000000 in
theorem c_lawRevRect (l : List Sg) (a b c d : Int) : CallsG Try.prog 6 [.sl sgE l, .agg (reE a b c d)] [] (bl true) [] := by
  refine calls_to tok mix Try.func6 rfl rfl rfl ?_
  refine CallV.to _ (c_few l) rfl ?_
  refine Br.mk (fun _ => CallV.to _ c_example rfl .refl) (fun _ => ?_)
  refine CallV.fresh _ _ (c_reverse l) rfl (sg_flat _) (.inr (sg_scalar _)) ?_
  refine CallV.fresh _ _ (c_reverse' l) rfl (sg_flat _) (.inr (sg_scalar _)) ?_
  refine Dr.mk (by decide +kernel) ?_
  refine CallV.to _ (c_equal' (rev l).1 (rev l).1) rfl ?_
  refine Br.mk (fun _ => ?_) (fun k => absurd rfl k)
  refine Br.mk (fun _ => ?_) (fun k => absurd rfl k)
  refine CallV.to _ (c_fromRect a b c d) rfl ?_
  refine CallV.to _ (c_fromRect' a b c d) rfl ?_
  refine CallV.to _ (c_equal' (rectL a b c d) (rectL a b c d)) rfl ?_
  refine Br.mk (fun _ => ?_) (fun k => absurd rfl k)
  refine CallV.to _ c_example rfl ?_
  exact .refl

end Go.Gs
