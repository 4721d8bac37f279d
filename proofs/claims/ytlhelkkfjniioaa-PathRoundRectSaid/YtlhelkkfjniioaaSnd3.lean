/- The operations, one by one: what is left to be shown is enough. -/
import Derived.Test.YtlhelkkfjniioaaSnd2
import Derived.Laws.CopyRow
import Derived.Laws.Cover3
namespace Go.Gs

section
variable {P : Program} {op : Op} {svs : List SV} {lm : Nat → Option Mem} {κ : Nat}

theorem OpOK.pure {s : SV} (h : ∀ (o : Oper), o.op = op → ∀ (S Pm : Nat → Prop) (ρ : Names) (a : Act) (w : World), Gs S Pm ρ w svs ((operandsL op).map a.eval) →
    ∃ v, (execOp a.eval o).run P w = .ok (.value v) w ∧ G S Pm ρ w s v) : OpOK P op svs lm κ s .none := by
  intro o ho Keep M ρ a w _ hm _ _ hg
  obtain ⟨v, h1, h2⟩ := h o ho _ _ ρ a w hg
  exact Does.value h1 (After.same hm h2)

theorem OpOK.read {s : SV} (h : ∀ (o : Oper), o.op = op → ∀ (Keep : Nat → Prop) (M : List (Nat × Mem)) (ρ : Names) (a : Act) (w : World), (∀ k m, lm k = some m → (k, m) ∈ M) → MemOK Keep M ρ w →
    Gs (fun b => Keep b ∨ Own M ρ b) (Own M ρ) ρ w svs ((operandsL op).map a.eval) →
    ∃ v, (execOp a.eval o).run P w = .ok (.value v) w ∧ G (fun b => Keep b ∨ Own M ρ b) (Own M ρ) ρ w s v) : OpOK P op svs lm κ s .none := by
  intro o ho Keep M ρ a w hlm hm _ _ hg
  obtain ⟨v, h1, h2⟩ := h o ho Keep M ρ a w (fun k m h => mem_lookM (hlm k m h)) hm hg
  exact Does.value h1 (After.same hm h2)
end

theorem bin_sound {P : Program} {Γ : List (TypeId × TI)} (hT : TOK P Γ) {op : BinOp} {t yt : TypeId} {x y : Operand} {a b : SV} {lm : Nat → Option Mem} {κ : Nat} {K : SV → Prop}
    (h : bin Γ op t y a b K) : ∃ s, K s ∧ OpOK P (.binOp op t x y yt) [a, b] lm κ s .none := by
  unfold bin at h
  split at h
  · rename_i k m k' n
    have h2 : ∃ s, K s ∧ ∃ v, Good s v ∧ ∀ (P : Program) (t : TypeId) (w : World), (binOp op t (.int k m) (.int k' n)).run P w = .ok v w := by
      split at h
      · exact shiftV_sound h
      · rename_i hs
        obtain ⟨hk, h'⟩ := guardB_elim h
        have := kBeq_eq hk; subst this
        exact intV_sound hs h'
    obtain ⟨s, hK, v, hg, hr⟩ := h2
    refine ⟨s, hK, .pure fun o ho S Pm ρ a w hgs => ⟨v, ?_, hg.g⟩⟩
    have hx := (Gs.head hgs).val_inv
    have hy := (Gs.head (Gs.tail hgs)).val_inv
    simp [execOp, ho, hx, hy, eqGuard_at_int, hr]
  · rename_i cs ds
    obtain ⟨i, hi, h⟩ := withT_elim h
    obtain ⟨hagg, h⟩ := guardB_elim h
    obtain ⟨hlen, h⟩ := guardB_elim h
    obtain ⟨hint, h⟩ := guardB_elim h
    have hlen := Nat.eq_of_beq_eq_true hlen
    have hsound := (intsT_sound hT 8 t i hi hint).2
    have hcmp : i.cmp = true := by
      unfold intsT at hint; rw [hi] at hint; simp only at hint
      split at hint
      · rename_i hk; rw [hk] at hagg; cases hagg
      · exact (andB_elim hint).1
      · cases hint
    have hguard := ((hT t i hi).cmp hcmp).2.1
    have run : ∀ (cs ds : List Value) (w : World), cs.length = i.sz → Paired cs ds → (Op.equalIn 10000 t (.agg cs.toArray) (.agg ds.toArray)).run P w = .ok (eqB cs ds) w := by
      intro cs ds w h1 h2
      have := hsound 9992 cs ds w h1 h2
      simpa [wrapV, hagg] using this
    split at h
    · obtain ⟨p, ip, hK, hp⟩ := eqCells_elim h
      refine ⟨_, hK, .pure fun o ho S Pm ρ a w hgs => ?_⟩
      obtain ⟨vs, hx, hvs⟩ := (Gs.head hgs).agg_inv
      obtain ⟨us, hy, hus⟩ := (Gs.head (Gs.tail hgs)).agg_inv
      obtain ⟨h1, h2⟩ := hp hvs hus
      refine ⟨.bool (eqB vs us), ?_, (Good.pr h2).g⟩
      simp only [execOp, ho, hx, hy, Sem.run_bind, run_eqGuard_agg w _ t x y _ _ hguard, Result.andThen_ok, run_eql_struct, run vs us w (by rw [hvs.1, hlen]) h1, Sem.run_pure]
    · obtain ⟨p, ip, hK, hp⟩ := eqCells_elim h
      refine ⟨_, hK, .pure fun o ho S Pm ρ a w hgs => ?_⟩
      obtain ⟨vs, hx, hvs⟩ := (Gs.head hgs).agg_inv
      obtain ⟨us, hy, hus⟩ := (Gs.head (Gs.tail hgs)).agg_inv
      obtain ⟨h1, h2⟩ := hp hvs hus
      refine ⟨.bool (!eqB vs us), ?_, (Good.pr (by rw [h2]; rw [Bool.eq_iff_iff]; simp)).g⟩
      simp only [execOp, ho, hx, hy, Sem.run_bind, run_eqGuard_agg w _ t x y _ _ hguard, Result.andThen_ok, run_neq_struct, run vs us w (by rw [hvs.1, hlen]) h1, Sem.run_pure]
    · exact h.elim
  · rename_i α enc xs
    replace h := withT_elim h; obtain ⟨i, hi, h⟩ := h
    have hk := (hT t i hi).kind
    have key : ∀ {S Pm : Nat → Prop} {ρ : Names} {w : World} {v : Value}, G S Pm ρ w (.sl enc xs) v → ∃ a c, v = .slice a xs.length c ∧ (xs.length ≠ 0 → a.isNone = false) := fun hg => by
      rcases hg.sl_inv.sl_inv with ⟨rfl, a, rfl⟩ | ⟨_, b, o, cap, _, rfl, _⟩
      · exact ⟨a, 0, rfl, fun h => absurd rfl h⟩
      · exact ⟨_, cap, rfl, fun _ => rfl⟩
    have hguard : ∀ (w : World) (a b : Value), (∃ x y z, a = .slice x y z) → (eqGuard op t x y a b).run P w = .ok () w := fun w a b ⟨x, y, z, e⟩ => by subst e; simp [eqGuard]
    unfold nilCmp at h
    split at h
    · rename_i e hkind
      rw [hkind] at hk
      have hk : P.underlying t = some (.slice e) := hk
      rcases h with ⟨hn, h⟩ | h
      · refine ⟨_, h, .pure fun o ho S Pm ρ a w hgs => ?_⟩
        obtain ⟨ad, c, hx, hz⟩ := key (Gs.head hgs)
        have hy := (Gs.head (Gs.tail hgs)).val_inv
        refine ⟨.bool false, ?_, (Good.val _).g⟩
        simp [execOp, ho, hx, hy, hguard, binOp, run_equal_slice_nil w t e ad _ c hk, hz hn]
      · refine ⟨_, h, .pure fun o ho S Pm ρ a w hgs => ?_⟩
        obtain ⟨ad, c, hx, hz⟩ := key (Gs.head hgs)
        have hy := (Gs.head (Gs.tail hgs)).val_inv
        refine ⟨.bool ad.isNone, ?_, .d _ _ (.anyb _)⟩
        simp [execOp, ho, hx, hy, hguard, binOp, run_equal_slice_nil w t e ad _ c hk]
    · rename_i e hkind
      rw [hkind] at hk
      have hk : P.underlying t = some (.slice e) := hk
      rcases h with ⟨hn, h⟩ | h
      · refine ⟨_, h, .pure fun o ho S Pm ρ a w hgs => ?_⟩
        obtain ⟨ad, c, hx, hz⟩ := key (Gs.head hgs)
        have hy := (Gs.head (Gs.tail hgs)).val_inv
        refine ⟨.bool true, ?_, (Good.val _).g⟩
        simp [execOp, ho, hx, hy, hguard, binOp, run_equal_slice_nil w t e ad _ c hk, hz hn]
      · refine ⟨_, h, .pure fun o ho S Pm ρ a w hgs => ?_⟩
        obtain ⟨ad, c, hx, hz⟩ := key (Gs.head hgs)
        have hy := (Gs.head (Gs.tail hgs)).val_inv
        refine ⟨.bool (!ad.isNone), ?_, .d _ _ (.anyb _)⟩
        simp [execOp, ho, hx, hy, hguard, binOp, run_equal_slice_nil w t e ad _ c hk]
    · exact h.elim
  · replace h := withT_elim h; obtain ⟨i, hi, h⟩ := h
    have hk := (hT t i hi).kind
    have hguard : ∀ (w : World) (a b : Value), (∃ x y z, a = .slice x y z) → (eqGuard op t x y a b).run P w = .ok () w := fun w a b ⟨x, y, z, e⟩ => by subst e; simp [eqGuard]
    split at h
    · rename_i e hkind
      rw [hkind] at hk
      have hk : P.underlying t = some (.slice e) := hk
      refine ⟨_, h, .pure fun o ho S Pm ρ a w hgs => ?_⟩
      have hx := (Gs.head hgs).val_inv
      have hy := (Gs.head (Gs.tail hgs)).val_inv
      refine ⟨.bool true, ?_, (Good.val _).g⟩
      simp [execOp, ho, hx, hy, hguard, binOp, run_equal_slice_nil w t e none 0 0 hk]
    · rename_i e hkind
      rw [hkind] at hk
      have hk : P.underlying t = some (.slice e) := hk
      refine ⟨_, h, .pure fun o ho S Pm ρ a w hgs => ?_⟩
      have hx := (Gs.head hgs).val_inv
      have hy := (Gs.head (Gs.tail hgs)).val_inv
      refine ⟨.bool false, ?_, (Good.val _).g⟩
      simp [execOp, ho, hx, hy, hguard, binOp, run_equal_slice_nil w t e none 0 0 hk]
    · exact h.elim
  · replace h := withT_elim h; obtain ⟨i, hi, h⟩ := h
    have hk := (hT t i hi).kind
    split at h
    · rename_i hkind
      rw [hkind] at hk
      obtain ⟨p, ip, h, hp⟩ := toPr_elim h
      obtain ⟨q, iq, h, hq⟩ := toPr_elim h
      refine ⟨_, h, .pure fun o ho S Pm ρ a w hgs => ?_⟩
      have hx := hp (Gs.head hgs)
      have hy := hq (Gs.head (Gs.tail hgs))
      refine ⟨.bool (@decide p ip == @decide q iq), ?_, (Good.pr (by by_cases hp' : p <;> by_cases hq' : q <;> simp [hp', hq'])).g⟩
      simp [execOp, ho, hx, hy, eqGuard_at_bool, binOp, Op.equal, Op.maxDepth, run_equalIn_bool w 9999 t _ _ hk]
    · rename_i hkind
      rw [hkind] at hk
      obtain ⟨p, ip, h, hp⟩ := toPr_elim h
      obtain ⟨q, iq, h, hq⟩ := toPr_elim h
      refine ⟨_, h, .pure fun o ho S Pm ρ a w hgs => ?_⟩
      have hx := hp (Gs.head hgs)
      have hy := hq (Gs.head (Gs.tail hgs))
      refine ⟨.bool (!(@decide p ip == @decide q iq)), ?_, (Good.pr (by by_cases hp' : p <;> by_cases hq' : q <;> simp [hp', hq'])).g⟩
      simp [execOp, ho, hx, hy, eqGuard_at_bool, binOp, Op.equal, Op.maxDepth, run_equalIn_bool w 9999 t _ _ hk]
    · exact h.elim

theorem pick_sound {P : Program} {c a b : SV} {xc xa xb : Operand} {lm : Nat → Option Mem} {κ : Nat} {K : SV → MD → Prop} (h : pickV c a b K) :
    ∃ s, K s .none ∧ OpOK P (.pick xc xa xb) [c, a, b] lm κ s .none := by
  have yes : ∀ (c' : Bool), (∀ {S Pm : Nat → Prop} {ρ : Names} {w : World} {v : Value}, G S Pm ρ w c v → v = .bool c') → OpOK P (.pick xc xa xb) [c, a, b] lm κ (if c' then a else b) .none := by
    intro c' hc
    refine .pure fun o ho S Pm ρ e w hgs => ?_
    have h1 := hc (Gs.head hgs)
    have h2 := Gs.head (Gs.tail hgs)
    have h3 := Gs.head (Gs.tail (Gs.tail hgs))
    cases c' with
    | true => exact ⟨_, by simp [execOp, ho, h1, asBool], h2⟩
    | false => exact ⟨_, by simp [execOp, ho, h1, asBool], h3⟩
  unfold pickV at h
  split at h
  · exact ⟨a, h, yes true fun hg => hg.val_inv⟩
  · exact ⟨b, h, yes false fun hg => hg.val_inv⟩
  · rename_i p i
    by_cases hp : p
    · exact ⟨a, h.yes hp, yes true fun hg => by rw [hg.pr_inv]; simp [hp]⟩
    · exact ⟨b, h.no hp, yes false fun hg => by rw [hg.pr_inv]; simp [hp]⟩
  · exact h.elim

theorem un_sound {P : Program} {op : UnOp} {t : TypeId} {x : Operand} {s : SV} {lm : Nat → Option Mem} {κ : Nat} {K : SV → MD → Prop} (h : unV op s K) :
    ∃ r, K r .none ∧ OpOK P (.unOp op t x) [s] lm κ r .none := by
  unfold unV at h
  split at h
  · exact ⟨_, h, .pure fun o ho S Pm ρ a w hgs => ⟨.bool false, by simp [execOp, ho, (Gs.head hgs).val_inv, Op.unary], (Good.val _).g⟩⟩
  · exact ⟨_, h, .pure fun o ho S Pm ρ a w hgs => ⟨.bool true, by simp [execOp, ho, (Gs.head hgs).val_inv, Op.unary], (Good.val _).g⟩⟩
  · rename_i p i
    exact ⟨_, h, .pure fun o ho S Pm ρ a w hgs => ⟨.bool (!(@decide p i)), by simp [execOp, ho, (Gs.head hgs).pr_inv, Op.unary], (Good.pr (by rw [Bool.eq_iff_iff]; simp)).g⟩⟩
  · rename_i k n
    exact ⟨_, fitK_elim h, .pure fun o ho S Pm ρ a w hgs => ⟨.int k (k.wrap (-n)), by simp [execOp, ho, (Gs.head hgs).val_inv, Op.unary, Op.intArith], (Good.val _).g⟩⟩
  · exact h.elim

theorem mkV_elim {agg : Bool} {sz : Nat} {cs : List SV} {K : SV → Prop} (h : mkV agg sz cs K) : ∃ s, K s ∧ ((agg = true ∧ s = .agg (cs.take sz)) ∨ (agg = false ∧ ∃ r, cs = s :: r)) := by
  unfold mkV at h
  split at h
  · exact ⟨_, h, .inl ⟨rfl, rfl⟩⟩
  · split at h
    · exact ⟨_, force_elim h, .inr ⟨rfl, _, rfl⟩⟩
    · exact h.elim

theorem addr_add (b o n : Nat) : (⟨b, o, none⟩ : Addr).add n = ⟨b, o + n, none⟩ := by unfold Addr.add; split <;> simp_all

/-- A variable is loaded whose cells are known. -/
theorem load_run {P : Program} {t : TypeId} {i : TI} (hT : TOne P t i) {S Pm : Nat → Prop} {ρ : Names} {w : World} {b o : Nat} {cs : List SV} {vs : List Value} (hg : Gs S Pm ρ w cs vs)
    (hc : ∀ j v, vs[j]? = some v → w.cell? ⟨b, o + j, none⟩ = some v) (hle : i.sz ≤ cs.length) {s : SV}
    (hs : (i.kind.agg = true ∧ s = .agg (cs.take i.sz)) ∨ (i.kind.agg = false ∧ ∃ r, cs = s :: r)) :
    ∃ v, (loadVar t ⟨b, o, none⟩).run P w = .ok v w ∧ G S Pm ρ w s v := by
  unfold loadVar
  rw [Sem.run_bind, hT.agg w, Result.andThen_ok]
  rcases hs with ⟨h1, rfl⟩ | ⟨h1, r, rfl⟩
  · have hl : (vs.take i.sz).length = i.sz := by have := hg.1; simp; omega
    have hload := run_loadCells_list (P := P) w ⟨b, o, none⟩ (vs.take i.sz) (fun j v hv => by
      rw [addr_add]
      rw [List.getElem?_take] at hv
      split at hv
      · exact hc j v hv
      · cases hv)
    rw [hl] at hload
    refine ⟨.agg (vs.take i.sz).toArray, ?_, .agg _ _ (hg.take _).1 (hg.take _).2⟩
    simp [h1, hT.size, hload]
  · obtain ⟨v, vs', rfl, h2, h3⟩ := hg.cons_inv
    have := hc 0 v rfl
    exact ⟨v, by simp only [h1, Bool.false_eq_true, if_false, run_load, Nat.add_zero] at this ⊢; rw [this], h2⟩

theorem cell_one {s : SV} (h : cellB s = true) {S Pm : Nat → Prop} {ρ : Names} {w : World} {v : Value} (hg : G S Pm ρ w s v) : v.oneCell' = true := by
  cases s with
  | val u => rw [hg.val_inv]; cases u <;> first | rfl | (simp [cellB] at h)
  | pr p i => rw [hg.pr_inv]; rfl
  | agg cs => simp [cellB] at h
  | sl enc xs => rcases hg.sl_inv.sl_inv with ⟨_, _, rfl⟩ | ⟨_, _, _, _, _, rfl, _⟩ <;> rfl
  | nils => obtain ⟨_, rfl⟩ := hg.nils_inv; rfl
  | anyb => obtain ⟨_, rfl⟩ := hg.anyb_inv; rfl
  | full enc xs => obtain ⟨_, rfl, _⟩ := hg.full_inv; rfl
  | ptr cs => obtain ⟨_, _, _, rfl, _⟩ := hg.ptr_inv; rfl
  | loc k off => obtain ⟨_, _, rfl⟩ := hg.loc_inv; rfl
  | own k => exact hg.own_inv.2
  | eloc k sz i off => obtain ⟨_, _, _, _, rfl⟩ := hg.eloc_inv; rfl
  | win k sz lo n => obtain ⟨_, _, _, _, _, rfl, _⟩ := hg.win_inv; rfl
  | fn f cs => obtain ⟨_, rfl, _⟩ := hg.fn_inv; rfl
  | tup cs => simp [cellB] at h
  | junk => simp [cellB] at h

theorem cells_one {cs : List SV} (h : cellsB cs = true) {S Pm : Nat → Prop} {ρ : Names} {w : World} {vs : List Value} (hg : Gs S Pm ρ w cs vs) : ∀ v ∈ vs, v.oneCell' = true := by
  induction cs generalizing vs with
  | nil => rw [hg.nil_inv]; simp
  | cons s cs ih =>
    obtain ⟨v, vs', rfl, h1, h2⟩ := hg.cons_inv
    simp only [cellsB] at h
    split at h
    · rename_i hc
      intro u hu
      cases hu with
      | head => exact cell_one hc h1
      | tail _ hu => exact ih h h2 u hu
    · cases h

theorem one_cells {v : Value} (h : v.oneCell' = true) : v.cells = #[v] := by cases v <;> first | rfl | (simp [Value.oneCell'] at h)

/-- The cells of a value. -/
theorem cellsOf_g {s : SV} (h : cellsB (cellsOf s) = true) {S Pm : Nat → Prop} {ρ : Names} {w : World} {v : Value} (hg : G S Pm ρ w s v) :
    Gs S Pm ρ w (cellsOf s) v.cells.toList ∧ ∀ u ∈ v.cells.toList, u.oneCell' = true := by
  have key : Gs S Pm ρ w (cellsOf s) v.cells.toList := by
    by_cases ha : ∃ cs, s = .agg cs
    · obtain ⟨cs, rfl⟩ := ha
      obtain ⟨vs, rfl, h1⟩ := hg.agg_inv
      exact h1
    · have hc : cellsOf s = [s] := by cases s <;> first | rfl | exact absurd ⟨_, rfl⟩ ha
      rw [hc] at h ⊢
      simp only [cellsB] at h
      split at h
      · rename_i h1
        rw [one_cells (cell_one h1 hg)]
        exact .cons hg .nil
      · cases h
  exact ⟨key, cells_one h key⟩

theorem splice_g {S Pm : Nat → Prop} {ρ : Names} {w : World} {cs new : List SV} {vs us : List Value} (off : Nat) (h : Gs S Pm ρ w cs vs) (hn : Gs S Pm ρ w new us) :
    Gs S Pm ρ w (splice cs off new) (vs.take off ++ us ++ vs.drop (off + us.length)) := by
  unfold splice
  rw [hn.1]
  exact ((h.take _).append hn).append (h.drop _)

end Go.Gs
