/- What a symbolic value says, read back; blocks of one's own behind a change. -/
import Derived.Test.YtlhelkkfjniioaaSnd0
import Derived.Laws.StructEq
import Derived.Laws.MakeOwn
import Derived.Laws.Slices
namespace Go.Gs

section inv
variable {S Pm : Nat → Prop} {ρ : Names} {w : World}

theorem D.val_inv {v u : Value} (h : D S w (.val v) u) : u = v := by cases h; rfl
theorem G.val_inv {v u : Value} (h : G S Pm ρ w (.val v) u) : u = v := by cases h with | d _ _ h => exact h.val_inv
theorem G.pr_inv {p : Prop} {i : Decidable p} {u : Value} (h : G S Pm ρ w (.pr p i) u) : u = .bool (@decide p i) := by
  cases h with | d _ _ h => cases h; rfl
theorem G.loc_inv {k off : Nat} {u : Value} (h : G S Pm ρ w (.loc k off) u) : ∃ b, ρ k = some (.pointer (some ⟨b, 0, none⟩)) ∧ u = .pointer (some ⟨b, off, none⟩) := by
  cases h with
  | d _ _ h => cases h
  | loc _ _ b h => exact ⟨b, h, rfl⟩
theorem G.own_inv {k : Nat} {u : Value} (h : G S Pm ρ w (.own k) u) : ρ k = some u ∧ u.oneCell' = true := by
  cases h with
  | d _ _ h => cases h
  | own _ _ h h1 => exact ⟨h, h1⟩
theorem G.eloc_inv {k sz off : Nat} {i : Int} {u : Value} (h : G S Pm ρ w (.eloc k sz i off) u) :
    ∃ b len cap, ρ k = some (.slice (some ⟨b, 0, none⟩) len cap) ∧ u = .pointer (some ⟨b, i.toNat * sz + off, none⟩) := by
  cases h with
  | d _ _ h => cases h
  | eloc _ _ _ _ b len cap h => exact ⟨b, len, cap, h, rfl⟩
theorem G.win_inv {k sz : Nat} {lo n : Int} {u : Value} (h : G S Pm ρ w (.win k sz lo n) u) :
    ∃ b len cap cap', ρ k = some (.slice (some ⟨b, 0, none⟩) len cap) ∧ u = .slice (some ⟨b, lo.toNat * sz, none⟩) n.toNat cap' ∧ lo.toNat + n.toNat ≤ len ∧ n.toNat ≤ cap' := by
  cases h with
  | d _ _ h => cases h
  | win _ _ _ _ b len cap cap' h h1 h2 => exact ⟨b, len, cap, cap', h, rfl, h1, h2⟩
theorem G.ptr_inv {cs : List SV} {u : Value} (h : G S Pm ρ w (.ptr cs) u) : ∃ b o, ∃ c : Nat → Value, u = .pointer (some ⟨b, o, none⟩) ∧ b < w.heap.size ∧ ¬ Pm b ∧
    (∀ j, j < cs.length → w.cell? ⟨b, o + j, none⟩ = some (c j) ∧ (c j).oneCell' = true) ∧ ∀ (j : Nat) (s : SV), cs[j]? = some s → D S w s (c j) := by
  cases h with
  | d _ _ h => cases h
  | ptr _ b o c hb hP hc h => exact ⟨b, o, c, rfl, hb, hP, hc, h⟩
theorem G.agg_inv {cs : List SV} {u : Value} (h : G S Pm ρ w (.agg cs) u) : ∃ vs : List Value, u = .agg vs.toArray ∧ Gs S Pm ρ w cs vs := by
  cases h with
  | d _ _ h => cases h with | agg _ vs hl h => exact ⟨vs, rfl, hl, fun j s v hs hv => .d _ _ (h j s v hs hv)⟩
  | agg _ vs hl h => exact ⟨vs, rfl, hl, h⟩
theorem G.tup_inv {cs : List SV} {u : Value} (h : G S Pm ρ w (.tup cs) u) : ∃ vs : List Value, u = .tuple vs.toArray ∧ Gs S Pm ρ w cs vs := by
  cases h with
  | d _ _ h => cases h
  | tup _ vs hl h => exact ⟨vs, rfl, hl, h⟩
theorem G.fn_inv {f : FuncId} {cs : List SV} {u : Value} (h : G S Pm ρ w (.fn f cs) u) : ∃ vs : List Value, u = .func (.func f) #[] vs.toArray ∧ Gs S Pm ρ w cs vs := by
  cases h with
  | d _ _ h => cases h
  | fn _ _ vs hl h => exact ⟨vs, rfl, hl, h⟩
theorem G.sl_inv {α : Type} {enc : α → List SV} {xs : List α} {u : Value} (h : G S Pm ρ w (.sl enc xs) u) : D S w (.sl enc xs) u := by
  cases h with | d _ _ h => exact h
theorem D.sl_inv {α : Type} {enc : α → List SV} {xs : List α} {u : Value} (h : D S w (.sl enc xs) u) :
    (xs = [] ∧ ∃ a, u = .slice a 0 0) ∨ ∃ sz b o cap, ∃ c : Nat → Nat → Value, u = .slice (some ⟨b, o, none⟩) xs.length cap ∧ b < w.heap.size ∧ ¬ S b ∧ xs.length ≤ 9223372036854775807 ∧ xs.length ≤ cap ∧
      (∀ x ∈ xs, (enc x).length = sz) ∧ (∀ i j, i < xs.length → j < sz → w.cell? ⟨b, o + i * sz + j, none⟩ = some (c i j) ∧ (c i j).oneCell' = true) ∧
      ∀ (i j : Nat) (x : α) (s : SV), xs[i]? = some x → (enc x)[j]? = some s → D S w s (c i j) := by
  cases h with
  | nil _ a => exact .inl ⟨rfl, a, rfl⟩
  | sl _ _ sz b o cap c hb hS hlen hcap hsz hc h => exact .inr ⟨sz, b, o, cap, c, rfl, hb, hS, hlen, hcap, hsz, hc, h⟩

theorem G.nils_inv {u : Value} (h : G S Pm ρ w .nils u) : ∃ a, u = .slice a 0 0 := by
  cases h with | d _ _ h => cases h with | nils a => exact ⟨a, rfl⟩

theorem G.full_inv {α : Type} {enc : α → List SV} {xs : List α} {u : Value} (h : G S Pm ρ w (.full enc xs) u) : ∃ a, u = .slice a xs.length xs.length ∧ D S w (.sl enc xs) u := by
  cases h with | d _ _ h => cases h with | full _ _ a h => exact ⟨a, rfl, h⟩

theorem G.anyb_inv {u : Value} (h : G S Pm ρ w .anyb u) : ∃ b, u = .bool b := by
  cases h with | d _ _ h => cases h with | anyb b => exact ⟨b, rfl⟩

theorem Gs.nil : Gs S Pm ρ w [] [] := ⟨rfl, fun _ _ _ h => by simp at h⟩
theorem Gs.cons {s : SV} {v : Value} {cs : List SV} {vs : List Value} (h : G S Pm ρ w s v) (hs : Gs S Pm ρ w cs vs) : Gs S Pm ρ w (s :: cs) (v :: vs) :=
  ⟨by simp [hs.1], fun j s' v' h1 h2 => by
    cases j with
    | zero => simp at h1 h2; subst h1; subst h2; exact h
    | succ j => simp at h1 h2; exact hs.2 j s' v' h1 h2⟩
theorem Gs.head {s : SV} {v : Value} {cs : List SV} {vs : List Value} (h : Gs S Pm ρ w (s :: cs) (v :: vs)) : G S Pm ρ w s v := h.2 0 s v rfl rfl
theorem Gs.tail {s : SV} {v : Value} {cs : List SV} {vs : List Value} (h : Gs S Pm ρ w (s :: cs) (v :: vs)) : Gs S Pm ρ w cs vs :=
  ⟨by simpa using h.1, fun j s' v' h1 h2 => h.2 (j + 1) s' v' (by simpa using h1) (by simpa using h2)⟩
theorem Gs.cons_inv {s : SV} {cs : List SV} {vs : List Value} (h : Gs S Pm ρ w (s :: cs) vs) : ∃ v vs', vs = v :: vs' ∧ G S Pm ρ w s v ∧ Gs S Pm ρ w cs vs' := by
  cases vs with
  | nil => simp [Gs] at h
  | cons v vs => exact ⟨v, vs, rfl, h.head, h.tail⟩
theorem Gs.nil_inv {vs : List Value} (h : Gs S Pm ρ w [] vs) : vs = [] := by simpa [Gs] using h.1
theorem Gs.append {cs ds : List SV} {vs us : List Value} (h : Gs S Pm ρ w cs vs) (k : Gs S Pm ρ w ds us) : Gs S Pm ρ w (cs ++ ds) (vs ++ us) := by
  induction cs generalizing vs with
  | nil => rw [h.nil_inv]; exact k
  | cons s cs ih => obtain ⟨v, vs', rfl, h1, h2⟩ := h.cons_inv; exact .cons h1 (ih h2)
theorem Gs.append_inv {cs ds : List SV} {vs : List Value} (h : Gs S Pm ρ w (cs ++ ds) vs) : ∃ us us', vs = us ++ us' ∧ Gs S Pm ρ w cs us ∧ Gs S Pm ρ w ds us' := by
  induction cs generalizing vs with
  | nil => exact ⟨[], vs, rfl, .nil, h⟩
  | cons s cs ih =>
    obtain ⟨v, vs', rfl, h1, h2⟩ := h.cons_inv
    obtain ⟨us, us', rfl, h3, h4⟩ := ih h2
    exact ⟨v :: us, us', rfl, .cons h1 h3, h4⟩
theorem Gs.drop {cs : List SV} {vs : List Value} (n : Nat) (h : Gs S Pm ρ w cs vs) : Gs S Pm ρ w (cs.drop n) (vs.drop n) :=
  ⟨by simp [h.1], fun j s v h1 h2 => h.2 (n + j) s v (by simpa using h1) (by simpa using h2)⟩
theorem Gs.take {cs : List SV} {vs : List Value} (n : Nat) (h : Gs S Pm ρ w cs vs) : Gs S Pm ρ w (cs.take n) (vs.take n) :=
  ⟨by simp [h.1], fun j s v h1 h2 => by
    rw [List.getElem?_take] at h1 h2
    split at h1
    · rename_i hj; rw [if_pos hj] at h2; exact h.2 j s v h1 h2
    · cases h1⟩
theorem Gs.vals (l : List Value) : Gs S Pm ρ w (vals l) l :=
  ⟨by simp [Go.Gs.vals], fun j s v h1 h2 => by
    simp [Go.Gs.vals, h2] at h1; subst h1; exact .d _ _ (.val v)⟩
theorem Gs.mono' {S' Pm' : Nat → Prop} {ρ' : Names} {w' : World} {cs : List SV} {vs : List Value} (h : Gs S Pm ρ w cs vs)
    (hg : ∀ s v, G S Pm ρ w s v → G S' Pm' ρ' w' s v) : Gs S' Pm' ρ' w' cs vs := ⟨h.1, fun j s v h1 h2 => hg s v (h.2 j s v h1 h2)⟩
end inv

/-- 'force' changes nothing. -/
theorem force_elim {s : SV} {K : SV → Prop} (h : force s K) : K s := by
  cases s with
  | val v => cases v with
    | bool b => cases b <;> exact h
    | _ => exact h
  | _ => exact h

theorem guardB_elim {b : Bool} {K : Prop} (h : guardB b K) : b = true ∧ K := by cases b <;> first | exact h.elim | exact ⟨rfl, h⟩
theorem andB_elim {a b : Bool} (h : andB a b = true) : a = true ∧ b = true := by cases a <;> simp_all [andB]
theorem withT_elim {Γ : List (TypeId × TI)} {t : TypeId} {K : TI → Prop} (h : withT Γ t K) : ∃ i, ti Γ t = some i ∧ K i := by
  unfold withT at h; split at h
  · exact ⟨_, ‹_›, h⟩
  · exact h.elim

/-! ### The table of types -/
def KindOK (P : Program) (t : TypeId) : TK → Prop
  | .int k => P.underlying t = some (.int k)
  | .bool => P.underlying t = some .bool
  | .str => P.underlying t = some .string
  | .ptr e => P.underlying t = some (.pointer e)
  | .slice e => P.underlying t = some (.slice e)
  | .struct fs => ∃ F, P.underlying t = some (.struct F) ∧ F.toList.map (fun f => (f.offset, f.type)) = fs ∧ ∃ pl, F.toList.mapM (fun f => (P.info? f.type).map fun i => (f.offset, i.size)) = some pl
  | .arr n e => P.underlying t = some (.array n e)
  | .other => ∃ d, P.underlying t = some d ∧ ∀ w : World, (isAgg t).run P w = .ok false w

structure TOne (P : Program) (t : TypeId) (i : TI) : Prop where
  inf : ∃ f, P.info? t = some f ∧ f.size = i.sz ∧ f.bytes = i.bytes ∧ ∃ z, f.zero = some z ∧ z.cells.toList = i.zero ∧ (i.kind.agg = false → z.cells = #[z]) ∧ i.zero.length = i.sz ∧
    ∀ v ∈ i.zero, v.oneCell' = true
  kind : KindOK P t i.kind
  cmp : i.cmp = true → P.stoodInHeld t = false ∧ P.eqGuardType P.depth t = false ∧ ∀ f ∈ (P.fieldsOf t).toList, f.name ≠ "_"

def TOK (P : Program) (Γ : List (TypeId × TI)) : Prop := ∀ t i, ti Γ t = some i → TOne P t i

section types
variable {P : Program} {t : TypeId} {i : TI}
theorem TOne.size (h : TOne P t i) (w : World) : (sizeOf t).run P w = .ok i.sz w := by
  obtain ⟨f, h1, h2, _⟩ := h.inf
  simp [sizeOf, typeInfo, h1, h2]
theorem TOne.agg (h : TOne P t i) (w : World) : (isAgg t).run P w = .ok i.kind.agg w := by
  have hk := h.kind
  cases hi : i.kind <;> rw [hi] at hk <;> simp only [KindOK] at hk
  case struct fs => obtain ⟨F, hF, _⟩ := hk; simp [isAgg, run_underlying hF, TK.agg]
  case other => obtain ⟨d, hd, ha⟩ := hk; exact ha w
  all_goals simp [isAgg, run_underlying hk, TK.agg]
theorem TOne.und (h : TOne P t i) : ∃ d, P.underlying t = some d := by
  have hk := h.kind
  cases hi : i.kind <;> rw [hi] at hk <;> simp only [KindOK] at hk
  case struct fs => exact ⟨_, hk.choose_spec.1⟩
  case other => obtain ⟨d, hd, _⟩ := hk; exact ⟨d, hd⟩
  all_goals exact ⟨_, hk⟩
end types

/-! ### Blocks of one's own behind a change -/
theorem MRel.keep {Keep W W' : Nat → Prop} {ρ ρ' : Names} {w w' : World} {k : Nat} {m : Mem} (hs : Stp W W' ρ ρ' w w') (hk : ρ' k = ρ k)
    (hb : ∀ v b, ρ k = some v → blkOf v = some b → w'.heap[b]? = w.heap[b]?)
    (h : MRel (fun b => Keep b ∨ W b) W ρ w k m) : MRel (fun b => Keep b ∨ W' b) W' ρ' w' k m := by
  cases m with
  | box T cs =>
    obtain ⟨b, vs, h1, h2, h3, h4, h5⟩ := h
    exact ⟨b, vs, hk.trans h1, (hb _ b h1 rfl).trans h2, h3, h4, fun j s v hs' hv => (h5 j s v hs' hv).stp hs⟩
  | arr T enc sz xs =>
    obtain ⟨v, cells, h1, h2, h3, h4, h5, h6⟩ := h
    refine ⟨v, cells, hk.trans h1, ⟨h2.1, ?_⟩, h3, h4, h5, fun i j x s hx hj => ?_⟩
    · rcases h2.2 with h | ⟨g, cap, cur, rfl, h7, h8, h9⟩
      · exact .inl h
      · exact .inr ⟨g, cap, cur, rfl, h7, (hb _ g h1 rfl).trans h8, h9⟩
    · obtain ⟨u, hu, hd⟩ := h6 i j x s hx hj
      exact ⟨u, hu, hd.stp hs⟩
  | garr T sz xs =>
    obtain ⟨v, cells, h1, h2, h3, h4, h5, h6⟩ := h
    refine ⟨v, cells, hk.trans h1, ⟨h2.1, ?_⟩, h3, h4, h5, fun i j x s hx hj => ?_⟩
    · rcases h2.2 with h | ⟨g, cap, cur, rfl, h7, h8, h9⟩
      · exact .inl h
      · exact .inr ⟨g, cap, cur, rfl, h7, (hb _ g h1 rfl).trans h8, h9⟩
    · obtain ⟨u, hu, hd⟩ := h6 i j x s hx hj
      exact ⟨u, hu, hd.stp hs⟩

theorem MemOK.next {Keep : Nat → Prop} {M M' : List (Nat × Mem)} {ρ ρ' : Names} {w w' : World} (κ : Nat) (hm : MemOK Keep M ρ w)
    (hs : Stp (Own M ρ) (Own M' ρ') ρ ρ' w w') (hkeys : M'.Pairwise fun a b => a.1 ≠ b.1)
    (hold : ∀ k m, (k, m) ∈ M' → k ≠ κ → (k, m) ∈ M ∧ ρ' k = ρ k ∧ ∀ v b, ρ k = some v → blkOf v = some b → w'.heap[b]? = w.heap[b]?)
    (hnew : ∀ m, (κ, m) ∈ M' → MRel (fun b => Keep b ∨ Own M' ρ' b) (Own M' ρ') ρ' w' κ m)
    (hap : ∀ m v b, (κ, m) ∈ M' → ρ' κ = some v → blkOf v = some b →
      (∀ k m v', (k, m) ∈ M' → k ≠ κ → ρ k = some v' → blkOf v' ≠ some b) ∧ b < w'.heap.size ∧ ¬ Keep b) : MemOK Keep M' ρ' w' where
  rel k m hkm := by
    by_cases hk : k = κ
    · subst hk; exact hnew m hkm
    · obtain ⟨h1, h2, h3⟩ := hold k m hkm hk
      exact (hm.rel k m h1).keep hs h2 h3
  keys := hkeys
  apart k m k' m' v v' b h1 h2 hne hv hv' hb hb' := by
    by_cases hk : k = κ
    · subst hk
      have hk' : k' ≠ k := Ne.symm hne
      obtain ⟨_, h3, _⟩ := hold k' m' h2 hk'
      exact (hap m v b h1 hv hb).1 k' m' v' h2 hk' (h3 ▸ hv') hb'
    · by_cases hk' : k' = κ
      · subst hk'
        obtain ⟨_, h3, _⟩ := hold k m h1 hk
        exact (hap m' v' b h2 hv' hb').1 k m v h1 hk (h3 ▸ hv) hb
      · obtain ⟨h3, h4, _⟩ := hold k m h1 hk
        obtain ⟨h5, h6, _⟩ := hold k' m' h2 hk'
        exact hm.apart k m k' m' v v' b h3 h5 hne (h4 ▸ hv) (h6 ▸ hv') hb hb'
  old b hb := by
    obtain ⟨k, m, v, h1, h2, h3⟩ := hb
    by_cases hk : k = κ
    · subst hk; exact (hap m v b h1 h2 h3).2
    · obtain ⟨h4, h5, _⟩ := hold k m h1 hk
      have := hm.old b ⟨k, m, v, h4, h5 ▸ h2, h3⟩
      exact ⟨Nat.lt_of_lt_of_le this.1 hs.size, this.2⟩
  kp b hb := Nat.lt_of_lt_of_le (hm.kp b hb) hs.size

theorem mem_dropM {M : List (Nat × Mem)} {k : Nat} (x : Nat × Mem) (h : x ∈ dropM M k) : x ∈ M := by
  induction M with
  | nil => exact h
  | cons y r ih =>
    obtain ⟨k', m'⟩ := y
    simp only [dropM] at h
    split at h
    · exact .tail _ h
    · cases h with
      | head => exact .head _
      | tail _ h => exact .tail _ (ih h)
theorem dropM_ne {M : List (Nat × Mem)} {k : Nat} (hp : M.Pairwise fun a b => a.1 ≠ b.1) (x : Nat × Mem) (h : x ∈ dropM M k) : x.1 ≠ k := by
  induction M with
  | nil => cases h
  | cons y r ih =>
    obtain ⟨k', m'⟩ := y
    rw [List.pairwise_cons] at hp
    simp only [dropM] at h
    split at h
    · rename_i hb
      have := Nat.eq_of_beq_eq_true hb
      subst this
      exact fun e => hp.1 x h e.symm
    · rename_i hb
      cases h with
      | head => exact Nat.ne_of_beq_eq_false hb
      | tail _ h => exact ih hp.2 h
theorem pairwise_dropM {M : List (Nat × Mem)} {k : Nat} (hp : M.Pairwise fun a b => a.1 ≠ b.1) : (dropM M k).Pairwise fun a b => a.1 ≠ b.1 := by
  induction M with
  | nil => exact hp
  | cons y r ih =>
    obtain ⟨k', m'⟩ := y
    rw [List.pairwise_cons] at hp
    simp only [dropM]
    split
    · exact hp.2
    · rw [List.pairwise_cons]
      exact ⟨fun x hx => hp.1 x (mem_dropM x hx), ih hp.2⟩
theorem mem_setM {M : List (Nat × Mem)} {k : Nat} {m : Mem} (hp : M.Pairwise fun a b => a.1 ≠ b.1) (x : Nat × Mem) (h : x ∈ setM M k m) : x.1 ≠ k ∧ x ∈ M ∨ x = (k, m) := by
  induction M with
  | nil => cases h
  | cons y r ih =>
    obtain ⟨k', m'⟩ := y
    rw [List.pairwise_cons] at hp
    simp only [setM] at h
    split at h
    · rename_i hb
      have := Nat.eq_of_beq_eq_true hb
      subst this
      cases h with
      | head => exact .inr rfl
      | tail _ h => exact .inl ⟨fun e => hp.1 x h e.symm, .tail _ h⟩
    · rename_i hb
      cases h with
      | head => exact .inl ⟨Nat.ne_of_beq_eq_false hb, .head _⟩
      | tail _ h => exact (ih hp.2 h).imp (fun h => ⟨h.1, .tail _ h.2⟩) id
theorem keys_setM {M : List (Nat × Mem)} {k : Nat} {m : Mem} : (setM M k m).map (·.1) = M.map (·.1) := by
  induction M with
  | nil => rfl
  | cons y r ih =>
    obtain ⟨k', m'⟩ := y
    simp only [setM]
    split
    · rename_i hb
      have := Nat.eq_of_beq_eq_true hb
      subst this; rfl
    · simp [ih]
theorem pairwise_keys {M M' : List (Nat × Mem)} (h : M'.map (·.1) = M.map (·.1)) (hp : M.Pairwise fun a b => a.1 ≠ b.1) : M'.Pairwise fun a b => a.1 ≠ b.1 := by
  have h1 : (M.map (·.1)).Pairwise fun a b => a ≠ b := List.pairwise_map.2 hp
  rw [← h] at h1
  exact List.pairwise_map.1 h1
theorem own_keys {M M' : List (Nat × Mem)} (h : M'.map (·.1) = M.map (·.1)) {ρ : Names} {b : Nat} (ho : Own M ρ b) : Own M' ρ b := by
  obtain ⟨k, m, v, h1, h2, h3⟩ := ho
  have : k ∈ M'.map (·.1) := by rw [h]; exact List.mem_map.2 ⟨_, h1, rfl⟩
  obtain ⟨⟨k', m'⟩, hx, rfl⟩ := List.mem_map.1 this
  exact ⟨_, m', v, hx, h2, h3⟩
theorem lookM_of_mem {M : List (Nat × Mem)} {k : Nat} {m : Mem} (hp : M.Pairwise fun a b => a.1 ≠ b.1) (h : (k, m) ∈ M) : lookM M k = some m := by
  induction M with
  | nil => cases h
  | cons y r ih =>
    obtain ⟨k', m'⟩ := y
    rw [List.pairwise_cons] at hp
    simp only [lookM]
    cases h with
    | head => simp [Nat.beq_refl]
    | tail _ h =>
      have hne : k' ≠ k := hp.1 _ h
      have : Nat.beq k' k = false := by
        cases hb : Nat.beq k' k with
        | false => rfl
        | true => exact absurd (Nat.eq_of_beq_eq_true hb) hne
      simp [this, ih hp.2 h]

theorem pairwise_cons_ne {M : List (Nat × Mem)} {k : Nat} {m : Mem} (hp : M.Pairwise fun a b => a.1 ≠ b.1) (h : ∀ m, (k, m) ∉ M) : ((k, m) :: M).Pairwise fun a b => a.1 ≠ b.1 :=
  List.pairwise_cons.2 ⟨fun x hx e => by obtain ⟨k', m'⟩ := x; have e : k = k' := e; subst e; exact h m' hx, hp⟩

def upd (ρ : Names) (κ : Nat) (v : Value) : Names := fun k => if k = κ then some v else ρ k


theorem upd_same {ρ : Names} {κ : Nat} {v : Value} : upd ρ κ v κ = some v := by simp [upd]
theorem upd_ne {ρ : Names} {κ k : Nat} {v : Value} (h : k ≠ κ) : upd ρ κ v k = ρ k := by simp [upd, h]

/-- A block of one's own is written. -/
theorem MemOK.write {Keep : Nat → Prop} {M : List (Nat × Mem)} {ρ : Names} {w : World} (hm : MemOK Keep M ρ w) {k : Nat} {m : Mem} (m' : Mem) (hk : (k, m) ∈ M) {v : Value} {b : Nat}
    (hv : ρ k = some v) (hb : blkOf v = some b) (cs : Array Value)
    (hrel : Stp (Own M ρ) (Own (setM M k m') ρ) ρ ρ w (w.setRow b cs) → MRel (fun b => Keep b ∨ Own (setM M k m') ρ b) (Own (setM M k m') ρ) ρ (w.setRow b cs) k m') :
    Stp (Own M ρ) (Own (setM M k m') ρ) ρ ρ w (w.setRow b cs) ∧ MemOK Keep (setM M k m') ρ (w.setRow b cs) := by
  have hkeys : (setM M k m').map (·.1) = M.map (·.1) := keys_setM
  have hs : Stp (Own M ρ) (Own (setM M k m') ρ) ρ ρ w (w.setRow b cs) :=
    ⟨rfl, rfl, .setRow _ _ _, by simp, fun b' _ hn => setRow_other w b b' cs (fun e => hn ⟨k, m, v, hk, hv, e ▸ hb⟩), fun b' hb' => .inl (own_keys hkeys.symm hb'), fun _ _ h => h⟩
  refine ⟨hs, MemOK.next k hm hs (pairwise_keys hkeys hm.keys) ?_ ?_ ?_⟩
  · intro k' m1 h1 hne
    rcases mem_setM hm.keys _ h1 with ⟨_, h2⟩ | h2
    · refine ⟨h2, rfl, fun v' b' hv' hb' => setRow_other w b b' cs (fun e => ?_)⟩
      subst e
      exact hm.apart k' m1 k m v' v b' h2 hk hne hv' hv hb' hb
    · cases h2; exact absurd rfl hne
  · intro m1 h1
    rcases mem_setM hm.keys _ h1 with ⟨h2, _⟩ | h2
    · exact absurd rfl h2
    · cases h2; exact hrel hs
  · intro m1 v' b' _ hv' hb'
    rw [hv] at hv'; cases hv'
    rw [hb] at hb'; cases hb'
    refine ⟨fun k' m2 v2 h2 hne hv2 hb2 => ?_, by simpa using (hm.old b ⟨k, m, v, hk, hv, hb⟩).1, (hm.old b ⟨k, m, v, hk, hv, hb⟩).2⟩
    rcases mem_setM hm.keys _ h2 with ⟨_, h3⟩ | h3
    · exact hm.apart k' m2 k m v2 v b h3 hk hne hv2 hv hb2 hb
    · cases h3; exact absurd rfl hne

/-- A new block of one's own; some may be let go. -/
theorem MemOK.grow {Keep : Nat → Prop} {M M1 : List (Nat × Mem)} {ρ : Names} {w : World} (hm : MemOK Keep M ρ w) (hsub : ∀ x ∈ M1, x ∈ M) (hpw : M1.Pairwise fun a b => a.1 ≠ b.1)
    {κ : Nat} (hκ : ρ κ = none) (hκM : ∀ m, (κ, m) ∉ M) (v : Value) (m : Mem) (w' : World) (hos : w'.os = w.os) (htape : w'.tape = w.tape) (hout : SameOut w w')
    (hsize : w.heap.size ≤ w'.heap.size) (hblock : ∀ b, b < w.heap.size → ¬ Own M ρ b → w'.heap[b]? = w.heap[b]?)
    (hkeep : ∀ k m v b, (k, m) ∈ M1 → ρ k = some v → blkOf v = some b → w'.heap[b]? = w.heap[b]?)
    (hv : ∀ b, blkOf v = some b → (Own M ρ b ∨ w.heap.size ≤ b) ∧ b < w'.heap.size ∧ ∀ k m v', (k, m) ∈ M1 → ρ k = some v' → blkOf v' ≠ some b)
    (hrel : Stp (Own M ρ) (Own ((κ, m) :: M1) (upd ρ κ v)) ρ (upd ρ κ v) w w' →
      MRel (fun b => Keep b ∨ Own ((κ, m) :: M1) (upd ρ κ v) b) (Own ((κ, m) :: M1) (upd ρ κ v)) (upd ρ κ v) w' κ m) :
    Stp (Own M ρ) (Own ((κ, m) :: M1) (upd ρ κ v)) ρ (upd ρ κ v) w w' ∧ MemOK Keep ((κ, m) :: M1) (upd ρ κ v) w' := by
  have hne : ∀ k m, (k, m) ∈ M1 → k ≠ κ := fun k m h e => by subst e; exact hκM m (hsub _ h)
  have hs : Stp (Own M ρ) (Own ((κ, m) :: M1) (upd ρ κ v)) ρ (upd ρ κ v) w w' := by
    refine ⟨hos, htape, hout, hsize, hblock, ?_, ?_⟩
    · rintro b ⟨k, m', v', hk, hv', hb⟩
      cases hk with
      | head => rw [upd_same] at hv'; cases hv'; exact (hv b hb).1
      | tail _ hk => rw [upd_ne (hne _ _ hk)] at hv'; exact .inl ⟨k, m', v', hsub _ hk, hv', hb⟩
    · intro k v' h
      rw [upd_ne (fun e => by subst e; rw [hκ] at h; cases h)]; exact h
  refine ⟨hs, MemOK.next κ hm hs (pairwise_cons_ne hpw fun m h => hκM m (hsub _ h)) ?_ ?_ ?_⟩
  · intro k m' h hk
    cases h with
    | head => exact absurd rfl hk
    | tail _ h => exact ⟨hsub _ h, upd_ne hk, fun v' b h1 h2 => hkeep k m' v' b h h1 h2⟩
  · intro m' h
    cases h with
    | head => exact hrel hs
    | tail _ h => exact absurd rfl (hne _ _ h)
  · intro m' v' b _ h1 h2
    rw [upd_same] at h1; cases h1
    obtain ⟨h3, h4, h5⟩ := hv b h2
    refine ⟨fun k m1 v1 h6 h7 h8 => ?_, h4, fun hk => ?_⟩
    · cases h6 with
      | head => exact absurd rfl h7
      | tail _ h6 => exact h5 k m1 v1 h6 h8
    · rcases h3 with h3 | h3
      · exact (hm.old b h3).2 hk
      · have := hm.kp b hk; omega

/-- A block of one's own is let go. -/
theorem MemOK.let_go {Keep : Nat → Prop} {M M1 : List (Nat × Mem)} {ρ : Names} {w : World} (hm : MemOK Keep M ρ w) (hsub : ∀ x ∈ M1, x ∈ M) (hpw : M1.Pairwise fun a b => a.1 ≠ b.1) :
    Stp (Own M ρ) (Own M1 ρ) ρ ρ w w ∧ MemOK Keep M1 ρ w := by
  have hs : Stp (Own M ρ) (Own M1 ρ) ρ ρ w w :=
    ⟨rfl, rfl, .refl _, Nat.le_refl _, fun _ _ _ => rfl, fun b ⟨k, m, v, h1, h2, h3⟩ => .inl ⟨k, m, v, hsub _ h1, h2, h3⟩, fun _ _ h => h⟩
  exact ⟨hs, fun k m h => (hm.rel k m (hsub _ h)).keep hs rfl (fun _ _ _ _ => rfl), hpw,
    fun k m k' m' v v' b h1 h2 => hm.apart k m k' m' v v' b (hsub _ h1) (hsub _ h2), fun b ⟨k, m, v, h1, h2, h3⟩ => hm.old b ⟨k, m, v, hsub _ h1, h2, h3⟩, hm.kp⟩

end Go.Gs
