/- A call by contract, and all operations. -/
import Derived.Test.YtoggmkhegbfjfaaGreatMAF
namespace Go.Gs

/-- All that was there is as it was. -/
theorem MemOK.same {Keep : Nat → Prop} {M : List (Nat × Mem)} {ρ : Names} {w w' : World} (hm : MemOK Keep M ρ w) (hos : w'.os = w.os) (htape : w'.tape = w.tape) (hout : SameOut w w')
    (hsize : w.heap.size ≤ w'.heap.size) (hblock : ∀ b, b < w.heap.size → w'.heap[b]? = w.heap[b]?) : Stp (Own M ρ) (Own M ρ) ρ ρ w w' ∧ MemOK Keep M ρ w' := by
  have hs : Stp (Own M ρ) (Own M ρ) ρ ρ w w' := ⟨hos, htape, hout, hsize, fun b hb _ => hblock b hb, fun b hb => .inl hb, fun _ _ h => h⟩
  exact ⟨hs, fun k m h => (hm.rel k m h).keep hs rfl (fun v b h1 h2 => hblock b (hm.old b ⟨k, m, v, h, h1, h2⟩).1), hm.keys, hm.apart,
    fun b hb => ⟨Nat.lt_of_lt_of_le (hm.old b hb).1 hsize, (hm.old b hb).2⟩, fun b hb => Nat.lt_of_lt_of_le (hm.kp b hb) hsize⟩

theorem MRel.move {S S' Pm Pm' : Nat → Prop} {ρ ρ' : Names} {w : World} {k k' : Nat} {m : Mem} (hk : ρ' k' = ρ k) (hf : flatM m) (hd : ∀ s v, (flat s = true ∨ True) → D S w s v → D S' w s v ∨ False)
    (h : MRel S Pm ρ w k m) : MRel S' Pm' ρ' w k' m := by
  cases m with
  | box T cs =>
    obtain ⟨b, vs, h1, h2, h3, h4, h5⟩ := h
    exact ⟨b, vs, hk.trans h1, h2, h3, h4, fun j s v hs hv => .d _ _ ((hd s v (.inr trivial) (flat_d (flats_mem hf j s hs) (h5 j s v hs hv))).resolve_right id)⟩
  | arr T enc sz xs =>
    obtain ⟨v, cells, h1, h2, h3, h4, h5, h6⟩ := h
    refine ⟨v, cells, hk.trans h1, h2, h3, h4, h5, fun i j x s hx hs => ?_⟩
    obtain ⟨u, hu, hd'⟩ := h6 i j x s hx hs
    exact ⟨u, hu, (hd s u (.inr trivial) hd').resolve_right id⟩
  | garr T sz xs => exact hf.elim
  | map es =>
    obtain ⟨r, ents, clock, h1, h2, h3, h4⟩ := h
    refine ⟨r, ents, clock, hk.trans h1, h2, h3, fun i n s hi => ?_⟩
    obtain ⟨e, g1, g2, g3⟩ := h4 i n s hi
    exact ⟨e, g1, g2, (hd s _ (.inr trivial) g3).resolve_right id⟩

theorem MRel.scalar {S S' Pm Pm' : Nat → Prop} {ρ ρ' : Names} {w : World} {k k' : Nat} {m : Mem} (hk : ρ' k' = ρ k) (hf : scalarM m) (h : MRel S Pm ρ w k m) : MRel S' Pm' ρ' w k' m := by
  cases m with
  | box T cs =>
    obtain ⟨b, vs, h1, h2, h3, h4, h5⟩ := h
    exact ⟨b, vs, hk.trans h1, h2, h3, h4, fun j s v hs hv => .d _ _ (scalar_any (scalar_mem hf j s hs) (h5 j s v hs hv))⟩
  | arr T enc sz xs =>
    obtain ⟨v, cells, h1, h2, h3, h4, h5, h6⟩ := h
    refine ⟨v, cells, hk.trans h1, h2, h3, h4, h5, fun i j x s hx hs => ?_⟩
    obtain ⟨u, hu, hd'⟩ := h6 i j x s hx hs
    exact ⟨u, hu, scalar_any (Pm := Pm) (ρ := ρ) (scalar_mem (hf x (List.mem_of_getElem? hx)) j s hs) (.d _ _ hd')⟩
  | garr T sz xs => exact hf.elim
  | map es =>
    obtain ⟨r, ents, clock, h1, h2, h3, h4⟩ := h
    refine ⟨r, ents, clock, hk.trans h1, h2, h3, fun i n s hi => ?_⟩
    obtain ⟨e, g1, g2, g3⟩ := h4 i n s hi
    exact ⟨e, g1, g2, scalar_any (Pm := Pm) (ρ := ρ) (scalar_mem hf i s (by simp [hi])) (.d _ _ g3)⟩

/-- The one block of a callee's own. -/
def one (v : Value) : Names := fun k => if k = 0 then some v else none

theorem own_one {v : Value} {m : Mem} {b : Nat} : Own [(0, m)] (one v) b ↔ blkOf v = some b := by
  constructor
  · rintro ⟨k, m', v', h, h1, h2⟩
    cases h with
    | head => simp [one] at h1; subst h1; exact h2
    | tail _ h => cases h
  · intro h; exact ⟨0, m, v, .head _, by simp [one], h⟩

theorem one_zero {v : Value} : one v 0 = some v := rfl

theorem noKey_mem {k : Nat} {cs : List SV} (h : noKey k cs = true) : ∀ k' off, .loc k' off ∈ cs → k' ≠ k := by
  induction cs with
  | nil => intro _ _ h; cases h
  | cons c cs ih =>
    intro k' off hm e
    subst e
    cases hm with
    | head => simp [noKey, Nat.beq_refl] at h
    | tail _ hm =>
      refine ih ?_ k' off hm rfl
      cases c <;> simp only [noKey] at h <;> (try split at h) <;> simp_all

theorem cleans1_loc {lm : Nat → Option Mem} {cs : List SV} (h : cleans1 lm cs = true) : ∀ k off, .loc k off ∈ cs → ∃ m, lm k = some m := by
  induction cs with
  | nil => intro _ _ h; cases h
  | cons x xs ih =>
    intro k off hm
    simp only [cleans1] at h
    split at h
    · rename_i hx
      cases hm with
      | head =>
        simp only [clean1] at hx
        cases hq : lm k with
        | none => simp [hq] at hx
        | some m => exact ⟨m, rfl⟩
      | tail _ hm => exact ih h k off hm
    · cases h

/-- The arguments, one's own block 'k' among them handed over. -/
theorem gives_g {lm : Nat → Option Mem} {Keep : Nat → Prop} {M : List (Nat × Mem)} {ρ : Names} {w : World} (hlm : ∀ k m, lm k = some m → (k, m) ∈ M) (hm : MemOK Keep M ρ w)
    {k : Nat} {m : Mem} {v0 : Value} (hkm : lm k = some m) (hv0 : ρ k = some v0) {S' Pm' : Nat → Prop} (hsub : ∀ b, S' b → Keep b ∨ Own M ρ b) (hPm : ∀ b, Pm' b → blkOf v0 = some b) :
    ∀ {cs : List SV} {vs : List Value}, Gs (fun b => Keep b ∨ Own M ρ b) (Own M ρ) ρ w cs vs → cleanG lm k cs = true → Gs S' Pm' (one v0) w (gives lm k cs) vs
  | [], vs, hg, _ => by rw [hg.nil_inv]; exact .nil
  | c :: cs, vs, hg, hc => by
    obtain ⟨v, vs', rfl, h1, h2⟩ := hg.cons_inv
    have hP : ∀ b, ¬ Own M ρ b → ¬ Pm' b := fun b hn hp => hn ⟨k, m, v0, hlm k m hkm, hv0, hPm b hp⟩
    have hP2 : ∀ k' b, (∃ m', lm k' = some m') → k' ≠ k → ρ k' = some (.pointer (some ⟨b, 0, none⟩)) → ¬ Pm' b := fun k' b ⟨m', hm'⟩ hne hρ hp =>
      hm.apart k' m' k m _ v0 b (hlm k' m' hm') (hlm k m hkm) hne hρ hv0 rfl (hPm b hp)
    have key : G S' Pm' (one v0) w (give lm k c) v ∧ cleanG lm k cs = true := by
      unfold cleanG at hc
      split at hc
      · rename_i heq; cases heq
      · rename_i k' off r heq
        cases heq
        split at hc
        · rename_i hb
          have := Nat.eq_of_beq_eq_true hb
          subst this
          refine ⟨?_, hc⟩
          simp only [give, Nat.beq_refl]
          obtain ⟨b, hρ, rfl⟩ := h1.loc_inv
          rw [hv0] at hρ; cases hρ
          exact .loc 0 off b one_zero
        · rename_i hb
          obtain ⟨hc1, hc2⟩ := andB_elim hc
          refine ⟨?_, hc2⟩
          simp only [give, hb]
          have hlk : ∃ m', lm k' = some m' := by
            simp only [clean, clean1] at hc1
            cases hq : lm k' with
            | none => simp [hq] at hc1
            | some m' => exact ⟨m', rfl⟩
          exact view_g hlm hm hsub h1 (.inl hc1) hP (fun k2 off2 b he hρ => by
            rcases he with he | ⟨_, _, he, _⟩
            · cases he; exact hP2 _ b hlk (Nat.ne_of_beq_eq_false hb) hρ
            · cases he)
      · rename_i k' r heq
        cases heq
        split at hc
        · rename_i hb
          have := Nat.eq_of_beq_eq_true hb
          subst this
          refine ⟨?_, hc⟩
          simp only [give, Nat.beq_refl]
          obtain ⟨hρ, h3⟩ := h1.own_inv
          rw [hv0] at hρ; cases hρ
          exact .own 0 _ one_zero h3
        · cases hc
      · rename_i k' sz lo n r heq
        cases heq
        split at hc
        · rename_i hb
          have := Nat.eq_of_beq_eq_true hb
          subst this
          refine ⟨?_, hc⟩
          simp only [give, Nat.beq_refl]
          obtain ⟨b, len, cap, cap', hρ, rfl, h3, h4⟩ := h1.win_inv
          rw [hv0] at hρ; cases hρ
          exact .win 0 sz lo n b len cap cap' one_zero h3 h4
        · cases hc
      · rename_i f caps r heq
        cases heq
        obtain ⟨hc0, hc⟩ := andB_elim hc
        obtain ⟨hc1, hc2⟩ := andB_elim hc
        refine ⟨?_, hc2⟩
        simp only [give]
        refine view_g hlm hm hsub h1 (.inl hc1) hP (fun k2 off2 b he hρ => ?_)
        rcases he with he | ⟨f', cs', he, hmem⟩
        · cases he
        · cases he
          refine hP2 k2 b ?_ (noKey_mem hc0 k2 off2 hmem) hρ
          simp only [clean] at hc1
          split at hc1
          · rename_i hcl; exact cleans1_loc hcl k2 off2 hmem
          · cases hc1
      · rename_i s r hn1 hn2 hn2' hn3 heq
        cases heq
        obtain ⟨hc1, hc2⟩ := andB_elim hc
        refine ⟨?_, hc2⟩
        have hgv : give lm k c = view lm c := by
          cases c <;> first | rfl | exact absurd rfl (hn1 _ _) | exact absurd rfl (hn2 _) | exact absurd rfl (hn2' _ _ _ _)
        rw [hgv]
        exact view_g hlm hm hsub h1 (.inl hc1) hP (fun k2 off2 b he hρ => by
          rcases he with rfl | ⟨f', cs', rfl, _⟩
          · exact absurd rfl (hn1 _ _)
          · exact absurd rfl (hn3 _ _))
    exact .cons key.1 (gives_g hlm hm hkm hv0 hsub hPm h2 key.2)

theorem MRel.name {S Pm : Nat → Prop} {ρ : Names} {w : World} {k : Nat} {m : Mem} (h : MRel S Pm ρ w k m) : ∃ v, ρ k = some v := by
  cases m with
  | box T cs => obtain ⟨b, vs, h1, _⟩ := h; exact ⟨_, h1⟩
  | arr T enc sz xs => obtain ⟨v, cells, h1, _⟩ := h; exact ⟨_, h1⟩
  | garr T sz xs => obtain ⟨v, cells, h1, _⟩ := h; exact ⟨_, h1⟩
  | map es => obtain ⟨r, ents, clock, h1, _⟩ := h; exact ⟨_, h1⟩

theorem mv_g {S Pm S' Pm' : Nat → Prop} {ρ ρ' : Names} {w : World} {κ : Nat} {v0 : Value} (h0 : ρ' 0 = some v0) (hκ : ρ κ = some v0) : ∀ (r : SV) {v : Value}, mvOK r = true → G S' Pm' ρ' w r v → G S Pm ρ w (mv κ r) v := by
  intro r
  induction r using SV.rec (motive_2 := fun cs => ∀ {vs : List Value}, mvOK.mvOKs cs = true → Gs S' Pm' ρ' w cs vs → Gs S Pm ρ w (mv.mvs κ cs) vs) with
  | val v => intro u _ hg; exact .d _ _ (hg.val_inv ▸ .val _)
  | pr p i => intro u _ hg; rw [hg.pr_inv]; exact .d _ _ (.pr p i)
  | agg cs ih =>
    intro u h hg
    simp only [mvOK] at h
    obtain ⟨vs, rfl, hvs⟩ := hg.agg_inv
    have := ih h hvs
    simp only [mv]
    exact .agg _ vs this.1 this.2
  | tup cs ih =>
    intro u h hg
    simp only [mvOK] at h
    obtain ⟨vs, rfl, hvs⟩ := hg.tup_inv
    have := ih h hvs
    simp only [mv]
    exact .tup _ vs this.1 this.2
  | own k =>
    intro u h hg
    simp only [mvOK] at h
    have := Nat.eq_of_beq_eq_true h
    subst this
    obtain ⟨g1, g2⟩ := hg.own_inv
    rw [h0] at g1; cases g1
    simp only [mv]
    exact .own _ _ hκ g2
  | sl _ _ => intro u h _; simp [mvOK] at h
  | ptr _ _ => intro u h _; simp [mvOK] at h
  | loc k off =>
    intro u h hg
    simp only [mvOK] at h
    have := Nat.eq_of_beq_eq_true h
    subst this
    obtain ⟨b, g1, rfl⟩ := hg.loc_inv
    rw [h0] at g1; cases g1
    simp only [mv]
    exact .loc _ _ _ hκ
  | eloc _ _ _ _ => intro u h _; simp [mvOK] at h
  | win _ _ _ _ => intro u h _; simp [mvOK] at h
  | fn f cs ih =>
    intro u h hg
    simp only [mvOK] at h
    obtain ⟨vs, rfl, hvs⟩ := hg.fn_inv
    have := ih h hvs
    simp only [mv]
    exact .fn _ _ vs this.1 this.2
  | dptr _ _ => intro u h _; simp [mvOK] at h
  | dfn _ _ _ => intro u h _; simp [mvOK] at h
  | ifc t s ih =>
    intro u h hg
    simp only [mvOK] at h
    obtain ⟨v, rfl, hv⟩ := hg.ifc_inv
    simp only [mv]
    exact .ifc t _ v (ih h hv)
  | junk => intro u _ _; exact .d _ _ (.junk u)
  | nils => intro u h _; simp [mvOK] at h
  | anyb => intro u h _; simp [mvOK] at h
  | full _ _ => intro u h _; simp [mvOK] at h
  | nil =>
    rename_i vs _ hg
    simpa [mv.mvs, hg.nil_inv] using Gs.nil
  | cons c cs ih1 ih2 =>
    rename_i vs h hg
    simp only [mvOK.mvOKs] at h
    split at h
    · rename_i h1
      obtain ⟨v, vs', rfl, g1, g2⟩ := hg.cons_inv
      exact .cons (ih1 h1 g1) (ih2 h g2)
    · cases h

theorem isArr_elim {o : Option Mem} (h : isArr o = true) : ∃ (T : TypeId) (α : Type) (enc : α → List SV) (sz : Nat) (xs : List α), o = some (.arr T enc sz xs) := by
  unfold isArr at h
  split at h
  · exact ⟨_, _, _, _, _, rfl⟩
  · cases h

/-- The arguments, one's own block 'k' among them let go. -/
theorem sees_g {lm : Nat → Option Mem} {Keep : Nat → Prop} {M : List (Nat × Mem)} {ρ : Names} {w : World} (hlm : ∀ k m, lm k = some m → (k, m) ∈ M) (hm : MemOK Keep M ρ w)
    {k : Nat} {T : TypeId} {α : Type} {enc : α → List SV} {sz : Nat} {xs : List α} (hkm : lm k = some (.arr T enc sz xs)) {S' : Nat → Prop} (hsub : ∀ b, S' b → Keep b ∨ Own M ρ b)
    (hk : ∀ v b, ρ k = some v → blkOf v = some b → ¬ S' b) {Pm' : Nat → Prop} (hP : ∀ b, ¬ Pm' b) {ρ' : Names} :
    ∀ {cs : List SV} {vs : List Value}, Gs (fun b => Keep b ∨ Own M ρ b) (Own M ρ) ρ w cs vs → seeB lm k cs = true → Gs S' Pm' ρ' w (views lm cs) vs
  | [], vs, hg, _ => by rw [hg.nil_inv]; exact .nil
  | c :: cs, vs, hg, hc => by
    obtain ⟨v, vs', rfl, h1, h2⟩ := hg.cons_inv
    unfold seeB at hc
    split at hc
    · rename_i heq; cases heq
    · rename_i k' r heq
      cases heq
      split at hc
      · rename_i hb
        have := Nat.eq_of_beq_eq_true hb
        subst this
        refine .cons ?_ (sees_g hlm hm hkm hsub hk hP h2 hc)
        simp only [view, view1, hkm]
        exact .d _ _ (own_d hm (hlm _ _ hkm) hsub hk h1.own_inv.1)
      · cases hc
    · rename_i s r hn heq
      cases heq
      obtain ⟨hc1, hc2⟩ := andB_elim hc
      exact .cons (view_g hlm hm hsub h1 (.inl hc1) (fun b _ => hP b) (fun _ _ b _ _ => hP b)) (sees_g hlm hm hkm hsub hk hP h2 hc2)

theorem call_sound {P : Program} {c : Call} {f : FuncId} {svs as : List SV} {lm : Nat → Option Mem} {κ : Nat} {K : SV → MD → Prop}
    (open_args : ∀ {S Pm : Nat → Prop} {ρ : Names} {a : Act} {w : World}, Gs S Pm ρ w svs ((operandsL (.call c)).map a.eval) →
      ∃ vs0, (∀ o : Oper, o.op = .call c → Callable P f → (execOp a.eval o).run P w = .ok (.enter f (List.toArray vs0)) w) ∧ Gs S Pm ρ w as vs0)
    (h : CallV P lm κ f as K) : ∃ r md, K r md ∧ OpOK P (.call c) svs lm κ r md := by
  cases h with
  | to r hcall hr hk =>
    refine ⟨r, .none, force_elim hk, fun o ho Keep M ρ a w hlm hm _ _ hgs => ?_⟩
    have hlm' := fun k m h => mem_lookM (hlm k m h)
    obtain ⟨vs0, hrun, hg⟩ := open_args hgs
    refine Does.call (hrun o ho hcall.1) ?_
    by_cases hcl : clean lm as = true
    · have hr : flatR r = true := by unfold okRes at hr; rw [hcl] at hr; exact hr
      have hb : ∀ b, (Keep b ∨ Own M ρ b) → b < w.heap.size := fun b hb => hb.elim (hm.kp b) fun h => (hm.old b h).1
      have hv : Gs (fun b => (Keep b ∨ Own M ρ b) ∨ Own [] (fun _ => none) b) (Own [] (fun _ => none)) (fun _ => none) w (views lm as) vs0 :=
        views_g hlm' hm (fun b h => h.resolve_right own_nil) (fun _ => own_nil) hg (.inl hcl)
      refine (hcall.2 (fun b => Keep b ∨ Own M ρ b) (fun _ => none) w _ hb (memOK_nil hb) (fun _ _ => rfl) hv).mono ?_
      rintro e w' ⟨v, ρ', rfl, hs, _, hgr⟩
      obtain ⟨hs', hm'⟩ := hm.same hs.os hs.tape hs.output hs.size fun b hb => hs.block b hb own_nil
      exact ⟨v, rfl, ρ, hs', hm', flatR_g (fun b h => .inl h) hr hgr, fun _ _ => rfl⟩
    · have hr : scalarR r = true := by unfold okRes at hr; rw [Bool.eq_false_iff.2 hcl] at hr; exact hr
      have hv : Gs (fun b => False ∨ Own [] (fun _ => none) b) (Own [] (fun _ => none)) (fun _ => none) w (views lm as) vs0 :=
        views_g hlm' hm (fun b h => (h.resolve_left id |> own_nil).elim) (fun _ => own_nil) hg (.inr fun b _ h => own_nil (h.resolve_left id))
      refine (hcall.2 (fun _ => False) (fun _ => none) w _ (fun _ h => h.elim) (memOK_nil fun _ h => h.elim) (fun _ _ => rfl) hv).mono ?_
      rintro e w' ⟨v, ρ', rfl, hs, _, hgr⟩
      obtain ⟨hs', hm'⟩ := hm.same hs.os hs.tape hs.output hs.size fun b hb => hs.block b hb own_nil
      exact ⟨v, rfl, ρ, hs', hm', scalarR_g hr hgr, fun _ _ => rfl⟩
  | fresh m r hcall hr0 hfm hcl hk =>
    refine ⟨_, _, force_elim hk, fun o ho Keep M ρ a w hlm hm hκ hκM hgs => ?_⟩
    replace hκ := hκ _ (Nat.le_refl _) (Nat.lt_succ_self _); replace hκM := hκM rfl
    have hlm' := fun k m h => mem_lookM (hlm k m h)
    obtain ⟨vs0, hrun, hg⟩ := open_args hgs
    refine Does.call (hrun o ho hcall.1) ?_
    have fin : ∀ (S0 : Nat → Prop), ((∀ b, Keep b ∨ Own M ρ b → S0 b) ∨ scalarM m) → ∀ (w' : World) (v : Value) (ρ' : Names), Stp (Own [] (fun _ => none)) (Own [(0, m)] ρ') (fun _ => none) ρ' w w' → MemOK S0 [(0, m)] ρ' w' →
        G (fun b => S0 b ∨ Own [(0, m)] ρ' b) (Own [(0, m)] ρ') ρ' w' r v → After Keep M ρ w κ (mv κ r) (.push m) v w' := by
      intro S0 hS0 w' v1 ρ' hs hm' hgr
      obtain ⟨v, hv0⟩ := (hm'.rel 0 m (.head _)).name
      have hownv : ∀ b, blkOf v = some b → w.heap.size ≤ b ∧ b < w'.heap.size := fun b hb =>
        have ho : Own [(0, m)] ρ' b := ⟨0, m, v, .head _, hv0, hb⟩
        ⟨(hs.own b ho).resolve_left own_nil, (hm'.old b ho).1⟩
      have hown0 : ∀ b, Own [(0, m)] ρ' b → blkOf v = some b := by
        rintro b ⟨k, m', v', h, h1, h2⟩
        cases h with
        | head => rw [hv0] at h1; cases h1; exact h2
        | tail _ h => cases h
      refine After.push (u := v) (hm.grow (fun _ h => h) hm.keys hκ hκM v m w' hs.os hs.tape hs.output hs.size (fun b hb _ => hs.block b hb own_nil)
        (fun k m v b h1 h2 h3 => hs.block b (hm.old b ⟨k, m, v, h1, h2, h3⟩).1 own_nil)
        (fun b hb => ⟨.inr (hownv b hb).1, (hownv b hb).2, fun k m v' h1 h2 h3 => by have := (hm.old b ⟨k, m, v', h1, h2, h3⟩).1; have := (hownv b hb).1; omega⟩) fun hst => ?_) (mv_g hv0 upd_same r hr0 hgr)
      rcases hS0 with hS0 | hsc
      · refine MRel.move (S := fun b => S0 b ∨ Own [(0, m)] ρ' b) (Pm := Own [(0, m)] ρ') (by rw [upd_same, hv0]) hfm (fun s u _ hd => .inl (hd.less fun b hb => ?_)) (hm'.rel 0 m (.head _))
        rcases hb with hb | ⟨k, m', v', h1, h2, h3⟩
        · exact .inl (hS0 b (.inl hb))
        · cases h1 with
          | head => rw [upd_same] at h2; cases h2; exact .inr ⟨0, m, v, .head _, hv0, h3⟩
          | tail _ h1 => rw [upd_ne (fun e => by subst e; exact hκM _ h1)] at h2; exact .inl (hS0 b (.inr ⟨k, m', v', h1, h2, h3⟩))
      · exact MRel.scalar (by rw [upd_same, hv0]) hsc (hm'.rel 0 m (.head _))
    by_cases hcl' : clean lm as = true
    · have hb : ∀ b, (Keep b ∨ Own M ρ b) → b < w.heap.size := fun b hb => hb.elim (hm.kp b) fun h => (hm.old b h).1
      have hv : Gs (fun b => (Keep b ∨ Own M ρ b) ∨ Own [] (fun _ => none) b) (Own [] (fun _ => none)) (fun _ => none) w (views lm as) vs0 :=
        views_g hlm' hm (fun b h => h.resolve_right own_nil) (fun _ => own_nil) hg (.inl hcl')
      refine (hcall.2 (fun b => Keep b ∨ Own M ρ b) (fun _ => none) w _ hb (memOK_nil hb) (fun _ _ => rfl) hv).mono ?_
      rintro e w' ⟨v, ρ', rfl, hs, hm', hgr⟩
      exact ⟨v, rfl, fin _ (.inl fun b h => h) w' v ρ' hs hm' hgr⟩
    · have hsc := hcl.resolve_left hcl'
      have hv : Gs (fun b => False ∨ Own [] (fun _ => none) b) (Own [] (fun _ => none)) (fun _ => none) w (views lm as) vs0 :=
        views_g hlm' hm (fun b h => (h.resolve_left id |> own_nil).elim) (fun _ => own_nil) hg (.inr fun b _ h => own_nil (h.resolve_left id))
      refine (hcall.2 (fun _ => False) (fun _ => none) w _ (fun _ h => h.elim) (memOK_nil fun _ h => h.elim) (fun _ _ => rfl) hv).mono ?_
      rintro e w' ⟨v, ρ', rfl, hs, hm', hgr⟩
      exact ⟨v, rfl, fin _ (.inr hsc) w' v ρ' hs hm' hgr⟩
  | see k r hcall hka hcs hr hk =>
    obtain ⟨T, α, enc, sz, xs, hlk⟩ := isArr_elim hka
    refine ⟨r, .drop k, force_elim hk, fun o ho Keep M ρ a w hlm hm _ _ hgs => ?_⟩
    have hlm' := fun k m h => mem_lookM (hlm k m h)
    obtain ⟨vs0, hrun, hg⟩ := open_args hgs
    refine Does.call (hrun o ho hcall.1) ?_
    have hmem := hlm' k _ hlk
    have hsub : ∀ b, (Keep b ∨ Own (dropM M k) ρ b) → Keep b ∨ Own M ρ b := fun b hb => hb.imp id fun ⟨k', m', v', h1, h2, h3⟩ => ⟨k', m', v', mem_dropM _ h1, h2, h3⟩
    have hb : ∀ b, (Keep b ∨ Own (dropM M k) ρ b) → b < w.heap.size := fun b hb => (hsub b hb).elim (hm.kp b) fun h => (hm.old b h).1
    have hkk : ∀ v b, ρ k = some v → blkOf v = some b → ¬ (Keep b ∨ Own (dropM M k) ρ b) := fun v b hv' hb hSb => by
      rcases hSb with hSb | ⟨k', m', v', h4, h5, h6⟩
      · exact (hm.old b ⟨k, _, v, hmem, hv', hb⟩).2 hSb
      · exact hm.apart k _ k' m' v v' b hmem (mem_dropM _ h4) (Ne.symm (dropM_ne hm.keys _ h4)) hv' h5 hb h6
    have hv : Gs (fun b => (Keep b ∨ Own (dropM M k) ρ b) ∨ Own [] (fun _ => none) b) (Own [] (fun _ => none)) (fun _ => none) w (views lm as) vs0 :=
      sees_g hlm' hm hlk (fun b h => hsub b (h.resolve_right own_nil)) (fun v b h1 h2 h3 => hkk v b h1 h2 (h3.resolve_right own_nil)) (fun _ => own_nil) hg hcs
    refine (hcall.2 (fun b => Keep b ∨ Own (dropM M k) ρ b) (fun _ => none) w _ hb (memOK_nil hb) (fun _ _ => rfl) hv).mono ?_
    rintro e w' ⟨v, ρ', rfl, hs, _, hgr⟩
    obtain ⟨hs1, hm1⟩ := hm.let_go (M1 := dropM M k) (fun x hx => mem_dropM x hx) (pairwise_dropM hm.keys)
    obtain ⟨hs', hm'⟩ := hm1.same hs.os hs.tape hs.output hs.size fun b hb => hs.block b hb own_nil
    exact ⟨v, rfl, ρ, ⟨hs.os, hs.tape, hs.output, hs.size, fun b hb _ => hs.block b hb own_nil, fun b ⟨k', m', v', h1, h2, h3⟩ => .inl ⟨k', m', v', mem_dropM _ h1, h2, h3⟩, fun _ _ h => h⟩, hm',
      flatR_g (fun b h => .inl h) hr hgr, fun _ _ => rfl⟩
  | hand k m m' r hlk hcall hfm hfm' hcl hr hk =>
    refine ⟨r, .set k m', force_elim hk, fun o ho Keep M ρ a w hlm hm _ _ hgs => ?_⟩
    have hlm' := fun k m h => mem_lookM (hlm k m h)
    obtain ⟨vs0, hrun, hg⟩ := open_args hgs
    refine Does.call (hrun o ho hcall.1) ?_
    have hkm := hlm' k m hlk
    obtain ⟨v0, hv0⟩ := (hm.rel k m hkm).name
    have hS : ∀ b, ((Keep b ∨ Own M ρ b) ∧ blkOf v0 ≠ some b) ∨ Own [(0, m)] (one v0) b → Keep b ∨ Own M ρ b := fun b hb =>
      hb.elim (fun h => h.1) fun h => .inr ⟨k, m, v0, hkm, hv0, own_one.1 h⟩
    have hlt : ∀ b, (Keep b ∨ Own M ρ b) → b < w.heap.size := fun b hb => hb.elim (hm.kp b) fun h => (hm.old b h).1
    have hm0 : MemOK (fun b => (Keep b ∨ Own M ρ b) ∧ blkOf v0 ≠ some b) [(0, m)] (one v0) w := by
      refine ⟨fun k' m1 h => ?_, List.pairwise_cons.2 ⟨fun _ h => (by cases h), List.Pairwise.nil⟩, fun k1 m1 k2 m2 _ _ _ h1 h2 hne => ?_, fun b hb => ?_, fun b hb => hlt b hb.1⟩
      · cases h with
        | head => exact MRel.move (by rw [one_zero, hv0]) hfm (fun s u _ hd => .inl (hd.less hS)) (hm.rel k m hkm)
        | tail _ h => cases h
      · cases h1 with
        | head => cases h2 with
          | head => exact absurd rfl hne
          | tail _ h => cases h
        | tail _ h => cases h
      · have := own_one.1 hb
        exact ⟨(hm.old b ⟨k, m, v0, hkm, hv0, this⟩).1, fun h => h.2 this⟩
    have hgv := gives_g (Pm' := Own [(0, m)] (one v0)) hlm' hm hlk hv0 hS (fun b hb => own_one.1 hb) hg hcl
    refine (hcall.2 _ (one v0) w _ (fun b hb => hlt b hb.1) hm0 (fun k' hk' => by
      have : k' ≠ 0 := by simp at hk'; omega
      simp [one, this]) hgv).mono ?_
    rintro e w' ⟨v, ρ', rfl, hs, hm', hgr⟩
    have hρ0 : ρ' 0 = some v0 := hs.rho 0 v0 one_zero
    have hown' : ∀ b, Own [(0, m')] ρ' b → blkOf v0 = some b := by
      rintro b ⟨k1, m1, v1, h, h1, h2⟩
      cases h with
      | head => rw [hρ0] at h1; cases h1; exact h2
      | tail _ h => cases h
    have hkeys : (setM M k m').map (·.1) = M.map (·.1) := keys_setM
    have hst : Stp (Own M ρ) (Own (setM M k m') ρ) ρ ρ w w' :=
      ⟨hs.os, hs.tape, hs.output, hs.size, fun b hb hn => hs.block b hb fun ho => hn ⟨k, m, v0, hkm, hv0, own_one.1 ho⟩, fun b hb => .inl (own_keys hkeys.symm hb), fun _ _ h => h⟩
    have hback : ∀ b, Keep b ∨ Own (setM M k m') ρ b → ((Keep b ∨ Own M ρ b) ∧ blkOf v0 ≠ some b) ∨ Own [(0, m')] ρ' b := fun b hb => by
      by_cases hbv : blkOf v0 = some b
      · exact .inr ⟨0, m', v0, .head _, hρ0, hbv⟩
      · exact .inl ⟨hb.imp id fun h => own_keys hkeys.symm h, hbv⟩
    refine ⟨v, rfl, ρ, hst, MemOK.next k hm hst (pairwise_keys hkeys hm.keys) ?_ ?_ ?_, flatR_g hback hr hgr, fun _ _ => rfl⟩
    · intro k' m1 h1 hne
      rcases mem_setM hm.keys _ h1 with ⟨_, h2⟩ | h2
      · refine ⟨h2, rfl, fun v' b' hv' hb' => hs.block b' (hm.old b' ⟨k', m1, v', h2, hv', hb'⟩).1 fun ho => ?_⟩
        exact hm.apart k' m1 k m v' v0 b' h2 hkm hne hv' hv0 hb' (own_one.1 ho)
      · cases h2; exact absurd rfl hne
    · intro m1 h1
      rcases mem_setM hm.keys _ h1 with ⟨h2, _⟩ | h2
      · exact absurd rfl h2
      · cases h2
        exact MRel.move (by rw [hv0, hρ0]) hfm' (fun s u _ hd => .inl (hd.less hback)) (hm'.rel 0 m' (.head _))
    · intro m1 v' b' _ hv' hb'
      rw [hv0] at hv'; cases hv'
      have ho : Own M ρ b' := ⟨k, m, v0, hkm, hv0, hb'⟩
      refine ⟨fun k' m2 v2 h2 hne hv2 hb2 => ?_, Nat.lt_of_lt_of_le (hm.old b' ho).1 hs.size, (hm.old b' ho).2⟩
      rcases mem_setM hm.keys _ h2 with ⟨_, h3⟩ | h3
      · exact hm.apart k' m2 k m v2 v0 b' h3 hkm hne hv2 hv0 hb2 hb'
      · cases h3; exact absurd rfl hne
  | give ks nn args' Mc M' r hcall ha hl hn hk hM hr hM' hkk =>
    refine ⟨_, _, force_elim (forceMs_elim hkk), fun o ho Keep M ρ a w hlm hm hκ _ hgs => ?_⟩
    obtain ⟨vs0, hrun, hg⟩ := open_args hgs
    refine Does.call (hrun o ho hcall.1) ?_
    exact give_sound hcall ha hl hn hk hM hr hM' hlm hm hκ hg

theorem vals_g {vs : List Value} {S Pm : Nat → Prop} {ρ : Names} {w : World} : Gs S Pm ρ w (vs.map .val) vs := by
  refine ⟨by simp, fun j s v h1 h2 => ?_⟩
  rw [List.getElem?_map, h2] at h1
  cases h1
  exact .d _ _ (.val v)
theorem ofV_g {v : Value} {S Pm : Nat → Prop} {ρ : Names} {w : World} : G S Pm ρ w (ofV v) v := by
  unfold ofV
  split
  · rename_i a
    have this := vals_g (vs := a.toList) (S := S) (Pm := Pm) (ρ := ρ) (w := w)
    have h := G.agg (S := S) (Pm := Pm) (ρ := ρ) (w := w) _ _ this.1 this.2
    simpa using h
  · exact .d _ _ (.val v)
theorem ofVs_g {vs : List Value} {S Pm : Nat → Prop} {ρ : Names} {w : World} : Gs S Pm ρ w (vs.map ofV) vs := by
  refine ⟨by simp, fun j s v h1 h2 => ?_⟩
  rw [List.getElem?_map, h2] at h1
  cases h1
  exact ofV_g
theorem concL_elim : ∀ {cs : List SV} {K : List Value → Prop}, concL cs K → ∃ vs, K vs ∧ cs = vs.map .val
  | [], K, h => ⟨[], h, rfl⟩
  | .val v :: cs, K, h => by
    have h : concL cs fun vs => K (v :: vs) := h
    obtain ⟨vs, h1, h2⟩ := concL_elim h
    exact ⟨v :: vs, h1, by rw [h2]; rfl⟩
theorem conc_elim {s : SV} {K : Value → Prop} (h : conc s K) : ∃ v, K v ∧ ∀ {S Pm : Nat → Prop} {ρ : Names} {w : World} {u : Value}, G S Pm ρ w s u → u = v := by
  cases s with
  | val v => exact ⟨v, h, fun hu => hu.val_inv⟩
  | agg cs =>
    obtain ⟨vs, h1, h2⟩ := concL_elim h
    refine ⟨_, h1, fun hu => ?_⟩
    obtain ⟨us, rfl, hus⟩ := hu.agg_inv
    subst h2
    have : us = vs := by
      refine List.ext_getElem? fun j => ?_
      have hl := hus.1
      rw [List.length_map] at hl
      rcases Nat.lt_or_ge j vs.length with hj | hj
      · have h1 := hus.2 j (.val vs[j]) (us[j]'(by omega)) (by simp [hj]) (by simp)
        rw [List.getElem?_eq_getElem (by omega), List.getElem?_eq_getElem hj, h1.val_inv]
      · rw [List.getElem?_eq_none (by omega), List.getElem?_eq_none hj]
    rw [this]
  | _ => exact h.elim
theorem concs_elim : ∀ {cs : List SV} {K : List Value → Prop}, concs cs K → ∃ vs, K vs ∧ ∀ {S Pm : Nat → Prop} {ρ : Names} {w : World} {us : List Value}, Gs S Pm ρ w cs us → us = vs
  | [], K, h => ⟨[], h, fun hg => hg.nil_inv⟩
  | c :: cs, K, h => by
    have h : conc c fun v => concs cs fun vs => K (v :: vs) := h
    obtain ⟨v, h, h1⟩ := conc_elim h
    obtain ⟨vs, h, h2⟩ := concs_elim h
    refine ⟨v :: vs, h, fun hg => ?_⟩
    obtain ⟨u, us, rfl, g1, g2⟩ := hg.cons_inv
    rw [h1 g1, h2 g2]

theorem opV_sound {P : Program} {Γ : List (TypeId × TI)} (hT : TOK P Γ) {op : Op} {svs : List SV} {lm : Nat → Option Mem} {κ : Nat} {K : SV → MD → Prop} (hlive : Live lm svs)
    (h : opV P Γ op svs lm κ K) : ∃ r md, K r md ∧ OpOK P op svs lm κ r md := by
  unfold opV at h
  split at h
  · rename_i x s
    exact ⟨s, .none, h, .pure fun o ho S Pm ρ a w hgs => ⟨_, by simp [execOp, ho], Gs.head hgs⟩⟩
  · rename_i x s
    exact ⟨s, .none, h, .pure fun o ho S Pm ρ a w hgs => ⟨_, by simp [execOp, ho], Gs.head hgs⟩⟩
  · obtain ⟨r, h1, h2⟩ := pick_sound h; exact ⟨r, _, h1, h2⟩
  · exact alloc_sound hT h
  · exact box_sound h
  · obtain ⟨r, h1, h2⟩ := build_sound hT h; exact ⟨r, _, h1, h2⟩
  · exact buildSlice_sound hT h
  · obtain ⟨r, h1, h2⟩ := load_sound hT h; exact ⟨r, _, h1, h2⟩
  · exact store_sound hT h
  · split at h
    · exact ⟨_, _, h, .pure fun o ho S Pm ρ a w hgs => by
        obtain ⟨b, hρ, hx⟩ := (Gs.head hgs).loc_inv
        exact ⟨_, by simp [execOp, ho, hx], .loc _ _ b hρ⟩⟩
    · rename_i cs
      exact ⟨_, _, h, .pure fun o ho S Pm ρ a w hgs => by
        have hg := Gs.head hgs
        obtain ⟨b, o', c, hx, _⟩ := hg.ptr_inv
        rw [hx] at hg
        exact ⟨_, by simp [execOp, ho, hx], hg⟩⟩
    · rename_i cs
      exact ⟨_, _, h, .pure fun o ho S Pm ρ a w hgs => by
        have hg := Gs.head hgs
        obtain ⟨b, o', c, hx, _⟩ := hg.dptr_inv
        rw [hx] at hg
        exact ⟨_, by simp [execOp, ho, hx], hg⟩⟩
    · exact ⟨_, _, h, .pure fun o ho S Pm ρ a w hgs => by
        have hg := Gs.head hgs
        obtain ⟨b, len, cap, _, hx⟩ := hg.eloc_inv
        rw [hx] at hg
        exact ⟨_, by simp [execOp, ho, hx], hg⟩⟩
    · exact ⟨_, _, h, .pure fun o ho S Pm ρ a w hgs => by
        have hg := Gs.head hgs
        obtain ⟨v, hx, _⟩ := hg.ifc_inv
        rw [hx] at hg
        exact ⟨_, by simp [execOp, ho, hx], hg⟩⟩
    · exact h.elim
  · obtain ⟨r, h1, h2⟩ := bin_sound hT h; exact ⟨r, _, h1, h2⟩
  · obtain ⟨r, h1, h2⟩ := un_sound h; exact ⟨r, _, h1, h2⟩
  · rename_i src t x s
    replace h := withT_elim h; obtain ⟨i0, hi0, h⟩ := h
    obtain ⟨d0, hd0⟩ := (hT src i0 hi0).und
    replace h := withT_elim h; obtain ⟨i, hi, h⟩ := h
    have hk := (hT t i hi).kind
    split at h
    · rename_i k k' n hkind
      rw [hkind] at hk
      have hk : P.underlying t = some (.int k) := hk
      refine ⟨_, _, fitK_elim h, .pure fun o ho S Pm ρ a w hgs => ⟨.int k (k.wrap n), ?_, (Good.val _).g⟩⟩
      have hx := (Gs.head hgs).val_inv
      simp [execOp, ho, hx, convert, run_underlying hd0, run_underlying hk, Conv.intToInt]
    · exact h.elim
  · rename_i fn first caps
    split at h
    · rename_i f
      split at h
      · rename_i he
        refine ⟨_, _, h, .pure fun o ho S Pm ρ a w hgs => ?_⟩
        have hf : first = #[] := by simpa using he
        subst hf
        replace hgs : Gs S Pm ρ w svs (caps.toList.map a.eval) := hgs
        refine ⟨.func (.func f) #[] (caps.toList.map a.eval).toArray, ?_, .fn f _ _ hgs.1 hgs.2⟩
        have he : caps.map a.eval = (caps.toList.map a.eval).toArray := by apply Array.ext'; simp
        rw [← he]
        simp [execOp, ho, Instr.makeFunc]
      · replace h := guardB_elim h; obtain ⟨he, h⟩ := h
        obtain ⟨vs, h, h1⟩ := concs_elim h
        have hf : caps = #[] := by simpa using he
        subst hf
        refine ⟨_, _, h, .pure fun o ho S Pm ρ a w hgs => ⟨_, ?_, .d _ _ (.val _)⟩⟩
        have hgs : Gs S Pm ρ w svs ((first.toList ++ []).map a.eval) := hgs
        rw [List.append_nil] at hgs
        have he : first.map a.eval = vs.toArray := by apply Array.ext'; simpa using h1 hgs
        simp [execOp, ho, Instr.makeFunc, he]
    · exact h.elim
  · exact makeSlice_sound hT h
  · exact slice_sound hT h
  · obtain ⟨r, h1, h2⟩ := fieldAddr_sound hT h; exact ⟨r, _, h1, h2⟩
  · obtain ⟨r, h1, h2⟩ := field_sound hT h; exact ⟨r, _, h1, h2⟩
  · obtain ⟨r, h1, h2⟩ := indexAddr_sound hT h; exact ⟨r, _, h1, h2⟩
  · obtain ⟨r, h1, h2⟩ := index_sound hT h; exact ⟨r, _, h1, h2⟩
  · rename_i x n s
    split at h
    · rename_i vs
      split at h
      · rename_i v r hd
        refine ⟨_, _, force_elim h, .pure fun o ho S Pm ρ a w hgs => ?_⟩
        obtain ⟨us, hx, hus⟩ := (Gs.head hgs).tup_inv
        have hg := hus.drop n
        rw [hd] at hg
        obtain ⟨u, us', hu, h1, _⟩ := hg.cons_inv
        have hu' : us[n]? = some u := by
          have : (us.drop n)[0]? = some u := by rw [hu]; rfl
          simpa using this
        exact ⟨u, by simp [execOp, ho, hx, Instr.extract, hu'], h1⟩
      · exact h.elim
    · exact h.elim
  · obtain ⟨r, h1, h2⟩ := makeIfc_sound hT h; exact ⟨r, _, h1, h2⟩
  · obtain ⟨r, h1, h2⟩ := assert_sound hT h; exact ⟨r, _, h1, h2⟩
  · exact makeMap_sound hT h
  · exact mapUpdate_sound hT h
  · exact insert_sound hT h
  · obtain ⟨r, h1, h2⟩ := lookup_sound hT h; exact ⟨r, _, h1, h2⟩
  · rename_i svs c
    split at h
    · rename_i fx hc
      split at h
      · rename_i f caps args
        refine call_sound (fun {S Pm ρ a w} hg => ?_) h
        have hg : Gs S Pm ρ w (.fn f caps :: args) (a.eval fx :: c.args.toList.map a.eval) := by simpa [operandsL, hc, calleeL] using hg
        obtain ⟨cv, h1, h2⟩ := hg.head.fn_inv
        exact ⟨_, fun o ho hcl => call_run (fs := []) ho hc h1 rfl hcl, hg.tail.append h2⟩
      · rename_i f first args
        refine call_sound (fun {S Pm ρ a w} hg => ?_) h
        have hg : Gs S Pm ρ w (.val (.func (.func f) first ⟨[]⟩) :: args) (a.eval fx :: c.args.toList.map a.eval) := by simpa [operandsL, hc, calleeL] using hg
        refine ⟨first.toList ++ (_ ++ []), fun o ho hcl => call_run (fs := first.toList) (caps := []) ho hc hg.head.val_inv rfl hcl, ofVs_g.append ?_⟩
        rw [List.append_nil]; exact hg.tail
      · rename_i f caps args
        refine call_sound (fun {S Pm ρ a w} hg => ?_) h
        have hg : Gs S Pm ρ w (.dfn f caps :: args) (a.eval fx :: c.args.toList.map a.eval) := by simpa [operandsL, hc, calleeL] using hg
        obtain ⟨cv, h1, h2⟩ := hg.head.dfn_inv
        exact ⟨_, fun o ho hcl => call_run (fs := []) ho hc h1 rfl hcl, hg.tail.append h2⟩
      · exact h.elim
    · rename_i rx name hc
      split at h
      · rename_i t s args
        obtain ⟨f, hmb, h⟩ := h
        refine call_sound (fun {S Pm ρ a w} hg => ?_) h
        have hg : Gs S Pm ρ w (.ifc t s :: args) (a.eval rx :: c.args.toList.map a.eval) := by simpa [operandsL, hc, calleeL] using hg
        obtain ⟨v, h1, h2⟩ := hg.head.ifc_inv
        exact ⟨_, fun o ho hcl => invoke_run ho hc h1 hmb hcl, .cons h2 hg.tail⟩
      · exact h.elim
    · rename_i b hb
      exact builtin_sound hT hb hlive h
  · exact h.elim

end Go.Gs
/- One operation upon an abstract state; a region in the order of its text. -/
namespace Go.Gs

theorem ev_elim {L : List (Nat × SV)} {x : Operand} {K : SV → Prop} (h : ev L x K) :
    ∃ s, K s ∧ ∀ {S Pm : Nat → Prop} {ρ : Names} {a : Act} {w : World}, (∀ t s, x = .tmp t → look L t = some s → G S Pm ρ w s (a.tmps.getD t undef)) → G S Pm ρ w s (a.eval x) := by
  unfold ev at h
  split at h
  · split at h
    · rename_i t _ s hs
      exact ⟨s, force_elim h, fun hr => hr _ _ rfl hs⟩
    · exact h.elim
  · exact ⟨_, force_elim h, fun _ => .d _ _ (.val _)⟩
  · exact ⟨_, h, fun _ => .fn _ [] [] rfl fun j s v h => by simp at h⟩
  · exact h.elim

theorem evs_elim {L : List (Nat × SV)} : ∀ {xs : List Operand} {K : List SV → Prop}, evs L xs K →
    ∃ svs, K svs ∧ ∀ {S Pm : Nat → Prop} {ρ : Names} {a : Act} {w : World}, (∀ t s, t ∈ tmpsOf xs → look L t = some s → G S Pm ρ w s (a.tmps.getD t undef)) → Gs S Pm ρ w svs (xs.map a.eval)
  | [], K, h => ⟨[], h, fun _ => .nil⟩
  | x :: xs, K, h => by
    obtain ⟨s, h, h1⟩ := ev_elim h
    obtain ⟨svs, h, h2⟩ := evs_elim h
    refine ⟨s :: svs, h, fun hr => .cons (h1 fun t s e hl => hr t s ?_ hl) (h2 fun t s ht hl => hr t s ?_ hl)⟩
    · subst e; exact .head _
    · cases x <;> first | exact .tail _ ht | exact ht

theorem known_elim {M : List (Nat × Mem)} {κ k : Nat} {m : Mem} (h : known M κ k = some m) : k < κ ∧ lookM M k = some m := by
  unfold known at h
  split at h
  · rename_i hb
    exact ⟨Nat.le_of_ble_eq_true hb, h⟩
  · cases h

theorem dstOK_elim {d : Option Tmp} {nt : Nat} {K : Prop} (h : dstOK d nt K) : (∀ t, d = some t → t < nt) ∧ K := by
  unfold dstOK at h
  split at h
  · obtain ⟨h1, h2⟩ := guardB_elim h
    exact ⟨fun t e => by cases e; exact Nat.le_of_ble_eq_true h1, h2⟩
  · exact ⟨fun t e => (by cases e), h⟩

def isGive : MD → Bool
  | .give _ _ _ => true
  | _ => false
/-- What may become of the blocks in a region that draws its order. -/
def MdOK (all : List Oper) (i κ : Nat) (op : Op) (md : MD) : Prop :=
  (isW op = true ∧ ((∀ k, md ≠ .drop k) ∧ isGive md = false) ∧ ∀ k m, (md = .set k m ∨ md = .repl k m) → k < κ) ∨ md = .none ∨ ((∃ m, md = .push m) ∧ (mayTouch op = true ∨ pushOK all i = true))

theorem mdV_elim {draw : Bool} {all : List Oper} {i κ : Nat} {op : Op} {md : MD} {K : Prop} (h : mdV draw all i κ op md K) : K ∧ (draw = true → MdOK all i κ op md) := by
  unfold mdV at h
  split at h
  · exact ⟨h, fun e => by cases e⟩
  · split at h
    · rename_i hw
      split at h
      · exact h.elim
      · obtain ⟨h1, h2⟩ := guardB_elim h
        exact ⟨h2, fun _ => .inl ⟨hw, ⟨fun k e => (by cases e), rfl⟩, fun k m e => by rcases e with e | e <;> cases e; exact Nat.le_of_ble_eq_true h1⟩⟩
      · obtain ⟨h1, h2⟩ := guardB_elim h
        exact ⟨h2, fun _ => .inl ⟨hw, ⟨fun k e => (by cases e), rfl⟩, fun k m e => by rcases e with e | e <;> cases e; exact Nat.le_of_ble_eq_true h1⟩⟩
      · exact h.elim
      · rename_i hn hn1 hn2 hn3; exact ⟨h, fun _ => .inl ⟨hw, ⟨fun k e => hn k e, by cases md <;> first | rfl | exact absurd rfl (hn3 _ _ _)⟩, fun k m e => e.elim (fun e => absurd e (hn1 k m)) (fun e => absurd e (hn2 k m))⟩⟩
    · split at h
      · exact ⟨h, fun _ => .inr (.inl rfl)⟩
      · split at h
        · exact ⟨h, fun _ => .inr (.inr ⟨⟨_, rfl⟩, .inl ‹_›⟩)⟩
        · rcases h with ⟨ho, hg⟩ | h
          · exact ⟨hg, fun _ => .inr (.inr ⟨⟨_, rfl⟩, .inr ho⟩)⟩
          · exact h.elim
      · exact h.elim

/-- Operation without a look at memory. -/
theorem opV_noM {P : Program} {Γ : List (TypeId × TI)} {op : Op} {svs : List SV} {lm lm' : Nat → Option Mem} {κ : Nat} {K : SV → MD → Prop} (hu : usesM op = false) (h : opV P Γ op svs lm κ K) : opV P Γ op svs lm' κ K := by
  cases op <;> first | (simp [usesM] at hu; done) | (rcases svs with _ | ⟨_, _ | ⟨_, _ | ⟨_, _ | _⟩⟩⟩ <;> exact h)

theorem Does.ex {P : Program} {o : Oper} {a : Act} {w : World} {R : Value → World → Prop} (h : Does P o a w R) : ∃ v w', R v w' := by
  unfold Does Oper.wp at h
  generalize (execOp a.eval o).run P w = r at *
  cases r with
  | ok n w' =>
    cases n <;> simp only [Oper.upon] at h
    case value v => obtain ⟨u, e, hr⟩ := h; exact ⟨u, w', hr⟩
    case skip => obtain ⟨u, e, hr⟩ := h; exact ⟨u, w', hr⟩
    case defer d => obtain ⟨u, e, hr⟩ := h; exact ⟨u, w', hr⟩
    case enter f args =>
      obtain ⟨e, w'', fr, hR, _⟩ := h []
      cases e with
      | returned v => obtain ⟨u, e, hr⟩ := hR; exact ⟨u, w'', hr⟩
      | panicked c => exact hR.elim
      | outgrown => obtain ⟨_, _, hf⟩ := hR; exact hf.elim
    case row row args =>
      obtain ⟨v, w'', hR, _⟩ := h default []
      obtain ⟨u, e, hr⟩ := hR; exact ⟨u, w'', hr⟩
  | halt x w' => cases x <;> simp only [Oper.upon] at h

theorem look_cons {L : List (Nat × SV)} {d t : Nat} {s : SV} : look ((d, s) :: L) t = if d = t then some s else look L t := by
  simp only [look]
  by_cases h : d = t
  · subst h; simp [Nat.beq_refl]
  · have : Nat.beq d t = false := by
      cases hb : Nat.beq d t with
      | false => rfl
      | true => exact absurd (Nat.eq_of_beq_eq_true hb) h
    simp [this, h]

theorem put_get {a : Act} {d t : Nat} {v : Value} (h : d < a.tmps.size) : (a.put (some d) v).tmps.getD t undef = if d = t then v else a.tmps.getD t undef := by
  simp only [Act.put]
  by_cases hd : d = t
  · subst hd; simp [h]
  · simp [hd]

theorem Rel.app {E : Env} {σ : St} {ρ : Names} {a : Act} {w w' : World} {d : Option Tmp} {s : SV} {md : MD} {v : Value} (h : Rel E σ ρ a w) (hd : ∀ t, d = some t → t < σ.nt)
    (ha : After E.Keep σ.M ρ w σ.nk s md v w') : ∃ ρ', Rel E (σ.app d s md) ρ' (a.put d v) w' := by
  obtain ⟨ρ', hs, hm, hg, hρ⟩ := ha
  refine ⟨ρ', ?_⟩
  have hregs : ∀ t s, look σ.L t = some s → t < σ.nt ∧ G (fun b => E.Keep b ∨ Own (appM σ.M σ.nk md) ρ' b) (Own (appM σ.M σ.nk md) ρ') ρ' w' s (a.tmps.getD t undef) := fun t s hl =>
    ⟨(h.regs t s hl).1, ((h.regs t s hl).2).stp hs⟩
  have hfresh : ∀ k, appK σ.nk md ≤ k → ρ' k = none := fun k hk => by
    have h1 : σ.nk ≤ appK σ.nk md := by cases md <;> simp [appK]
    rw [hρ k (.inr hk)]
    exact h.fresh k (by omega)
  cases d with
  | none => exact ⟨h.size, h.defers, hregs, hm, hfresh, h.stp.trans hs, h.keep, h.low⟩
  | some d =>
    have hlt := hd d rfl
    refine ⟨by have := h.size; simpa [Act.put, St.app] using this, h.defers, fun t s' hl0 => ?_, hm, hfresh, h.stp.trans hs, h.keep, h.low⟩
    have hl : (if d = t then some s else look σ.L t) = some s' := by rw [← look_cons]; exact hl0
    clear hl0
    rw [put_get (by rw [h.size]; exact hlt)]
    by_cases e : d = t
    · subst e
      rw [if_pos rfl] at hl; cases hl
      rw [if_pos rfl]
      exact ⟨hlt, hg⟩
    · rw [if_neg e] at hl ⊢
      exact hregs t s' hl

theorem Rel.noKey {E : Env} {σ : St} {ρ : Names} {a : Act} {w : World} (h : Rel E σ ρ a w) : ∀ m, (σ.nk, m) ∉ σ.M := fun m hm => by
  obtain ⟨v, hv⟩ := (h.mem.rel _ m hm).name
  rw [h.fresh _ (Nat.le_refl _)] at hv; cases hv

theorem skip_after {Keep : Nat → Prop} {M : List (Nat × Mem)} {ρ : Names} {w : World} {κ : Nat} (hm : MemOK Keep M ρ w) : After Keep M ρ w κ (.val undef) .none undef w := After.same hm (.d _ _ (.val _))

/-- What one operation is known to do. -/
structure Step1 (P : Program) (draw : Bool) (all : List Oper) (i : Nat) (o : Oper) (σ : St) (svs : List SV) (s : SV) (md : MD) : Prop where
  ok : OpOK P o.op svs (if usesM o.op then known σ.M σ.nk else fun _ => none) σ.nk s md
  ev : ∀ {S Pm : Nat → Prop} {ρ : Names} {a : Act} {w : World}, (∀ t s, t ∈ tmpsOf (operandsL o.op) → look σ.L t = some s → G S Pm ρ w s (a.tmps.getD t undef)) → Gs S Pm ρ w svs ((operandsL o.op).map a.eval)
  dst : ∀ t, o.dst = some t → t < σ.nt
  md : draw = true → MdOK all i σ.nk o.op md

theorem step_elim {P : Program} {Γ : List (TypeId × TI)} (hT : TOK P Γ) {draw : Bool} {all : List Oper} {i : Nat} {o : Oper} {σ : St} {K : St → Prop} {E : Env} {ρ : Names} {a : Act} {w : World}
    (hr : Rel E σ ρ a w) (h : stepOp P Γ draw all i o σ K) : ∃ svs s md, K (σ.app o.dst s md) ∧ Step1 P draw all i o σ svs s md := by
  unfold stepOp at h
  replace h := normN_elim h
  obtain ⟨svs, h, hev⟩ := evs_elim h
  have hg := hev (a := a) (fun t s _ hl => (hr.regs t s hl).2)
  have hlm : ∀ k m, known σ.M σ.nk k = some m → lookM σ.M k = some m := fun k m h => (known_elim h).2
  cases hu : usesM o.op with
  | true =>
    obtain ⟨s, md, hK, hok⟩ := opV_sound hT ⟨E.Keep, σ.M, ρ, w, _, hlm, hr.mem, hg⟩ h
    obtain ⟨hK, hmd⟩ := mdV_elim (spineM_elim (spineS_elim hK))
    obtain ⟨hd, hK⟩ := dstOK_elim hK
    exact ⟨svs, s, md, hK, by simpa [hu] using hok, hev, hd, hmd⟩
  | false =>
    obtain ⟨s, md, hK, hok⟩ := opV_sound hT ⟨E.Keep, σ.M, ρ, w, _, fun k m h => (by cases h), hr.mem, hg⟩ (opV_noM (lm' := fun _ => none) hu h)
    obtain ⟨hK, hmd⟩ := mdV_elim (spineM_elim (spineS_elim hK))
    obtain ⟨hd, hK⟩ := dstOK_elim hK
    exact ⟨svs, s, md, hK, by simpa [hu] using hok, hev, hd, hmd⟩

theorem Step1.does {P : Program} {draw : Bool} {all : List Oper} {i : Nat} {o : Oper} {σ : St} {svs : List SV} {s : SV} {md : MD} (h : Step1 P draw all i o σ svs s md) {E : Env} {ρ : Names} {a : Act} {w : World}
    (hr : Rel E σ ρ a w) : Does P o a w (After E.Keep σ.M ρ w σ.nk s md) := by
  refine h.ok o rfl E.Keep σ.M ρ a w (fun k m hk => ?_) hr.mem (fun k hk _ => hr.fresh k hk) (fun _ => hr.noKey) (h.ev fun t s _ hl => (hr.regs t s hl).2)
  split at hk
  · exact (known_elim hk).2
  · cases hk

theorem Rel.refine {E : Env} {σ : St} {ρ : Names} {a : Act} {w : World} (h : Rel E σ ρ a w) {t : Nat} {s s' : SV} (hl : look σ.L t = some s)
    (hg : ∀ S Pm ρ w v, G S Pm ρ w s v → G S Pm ρ w s' v) : Rel E (σ.put (some t) s') ρ a w :=
  ⟨h.size, h.defers, fun t' s2 hl0 => by
    have hl2 : (if t = t' then some s' else look σ.L t') = some s2 := by rw [← look_cons]; exact hl0
    clear hl0
    by_cases e : t = t'
    · subst e
      rw [if_pos rfl] at hl2; cases hl2
      exact ⟨(h.regs t s hl).1, hg _ _ _ _ _ (h.regs t s hl).2⟩
    · rw [if_neg e] at hl2
      exact h.regs t' s2 hl2, h.mem, h.fresh, h.stp, h.keep, h.low⟩

theorem pr_true {p : Prop} {i : Decidable p} (hp : p) : ∀ S Pm ρ w v, G S Pm ρ w (.pr p i) v → G S Pm ρ w (.val (.bool true)) v := fun _ _ _ _ v h => by
  rw [h.pr_inv]; simp only [hp, decide_true]; exact .d _ _ (.val _)
theorem pr_false {p : Prop} {i : Decidable p} (hp : ¬ p) : ∀ S Pm ρ w v, G S Pm ρ w (.pr p i) v → G S Pm ρ w (.val (.bool false)) v := fun _ _ _ _ v h => by
  rw [h.pr_inv]; simp only [hp, decide_false]; exact .d _ _ (.val _)

def wantV (v : Value) (want : Bool) : Bool :=
  match v with
  | .bool b => b == want
  | _ => false

/-- What is known of a guard. -/
def GuardIs (all : List Oper) (σ : St) (o : Oper) (run : Bool) : Prop :=
  match o.guard with
  | none => run = true
  | some (j, want) => ∃ t v, dstOf all j = some t ∧ look σ.L t = some (.val v) ∧ run = wantV v want

theorem dstOf_eq (all : List Oper) (j : Nat) : dstOf all j = (all[j]?).bind (·.dst) := by
  induction all generalizing j with
  | nil => simp [dstOf]
  | cons o r ih => cases j with
    | zero => simp [dstOf]
    | succ j => simp [dstOf, ih]

theorem wanted_of {all : List Oper} {σ : St} {o : Oper} {run : Bool} (h : GuardIs all σ o run) {a : Act} (hsz : a.tmps.size = σ.nt)
    (hg : ∀ t v, (∃ j want, o.guard = some (j, want) ∧ dstOf all j = some t) → look σ.L t = some (.val v) → t < σ.nt ∧ a.tmps.getD t undef = v) : Region.wanted o (yielded all.toArray a.tmps) = run := by
  unfold GuardIs at h
  unfold Region.wanted
  split at h
  · rename_i hn; simp [hn, h]
  · rename_i j want hgd
    obtain ⟨t, v, h1, h2, h3⟩ := h
    obtain ⟨h4, h5⟩ := hg t v ⟨j, want, hgd, h1⟩ h2
    have h6 : a.tmps[t]? = some v := by
      have hlt : t < a.tmps.size := hsz ▸ h4
      simp [hlt] at h5 ⊢
      exact h5
    rw [dstOf_eq] at h1
    simp only [hgd, yielded]
    have h1' : ((all.toArray)[j]?).bind (·.dst) = some t := by simpa using h1
    rw [h1']
    simp only [Option.bind_some, h6, h3]
    cases v <;> first | rfl | (rename_i b; cases b <;> cases want <;> rfl)

/-- One operation of the list, its guard looked at. -/
theorem ops_step {P : Program} {Γ : List (TypeId × TI)} (hT : TOK P Γ) {draw : Bool} {all : List Oper} {o : Oper} {r : List Oper} {i : Nat} {σ : St} {K : St → Prop} {E : Env} {ρ : Names} {a : Act} {w : World}
    (hr : Rel E σ ρ a w) (h : vcOps P Γ draw all (o :: r) i σ K) : ∃ σ' run svs s md, vcOps P Γ draw all r (i + 1) (σ'.app o.dst s md) K ∧ GuardIs all σ' o run ∧
      (σ' = σ ∨ ∃ t s0 s1, look σ.L t = some s0 ∧ (∀ S Pm ρ w v, G S Pm ρ w s0 v → G S Pm ρ w s1 v) ∧ σ' = σ.put (some t) s1) ∧ (∀ t, o.dst = some t → t < σ.nt) ∧
      ((run = true ∧ Step1 P draw all i o σ' svs s md) ∨ (run = false ∧ s = .val undef ∧ md = .none)) := by
  have run1 : ∀ {σ' : St}, Rel E σ' ρ a w → stepOp P Γ draw all i o σ' (fun σ => vcOps P Γ draw all r (i + 1) σ K) → σ'.nt = σ.nt → ∃ svs s md, vcOps P Γ draw all r (i + 1) (σ'.app o.dst s md) K ∧ (∀ t, o.dst = some t → t < σ.nt) ∧ Step1 P draw all i o σ' svs s md := by
    intro σ' hr' h' hn
    obtain ⟨svs, s, md, h1, h2⟩ := step_elim hT hr' h'
    exact ⟨svs, s, md, h1, fun t e => hn ▸ h2.dst t e, h2⟩
  simp only [vcOps] at h
  split at h
  · rename_i hg
    obtain ⟨svs, s, md, h1, h2, h3⟩ := run1 hr h rfl
    exact ⟨σ, true, svs, s, md, h1, by simp [GuardIs, hg], .inl rfl, h2, .inl ⟨rfl, h3⟩⟩
  · rename_i j want hg
    split at h
    · exact h.elim
    · rename_i t ht
      have gv : ∀ {σ' : St} {v : Value}, look σ'.L t = some (.val v) → GuardIs all σ' o (wantV v want) := fun hl => by
        unfold GuardIs; rw [hg]; exact ⟨t, _, ht, hl, rfl⟩
      have gi : ∀ {σ' : St} {b : Bool}, look σ'.L t = some (.val (.bool b)) → GuardIs all σ' o (b == want) := fun hl => gv hl
      have put_look : ∀ (s1 : SV), look (σ.put (some t) s1).L t = some s1 := fun s1 => by
        show look ((t, s1) :: σ.L) t = some s1
        rw [look_cons]; simp
      split at h
      · rename_i hl
        split at h
        · obtain ⟨svs, s, md, h1, h2, h3⟩ := run1 hr h rfl
          exact ⟨σ, _, svs, s, md, h1, gi hl, .inl rfl, h2, .inl ⟨rfl, h3⟩⟩
        · obtain ⟨hd, h⟩ := dstOK_elim h
          exact ⟨σ, _, [], _, _, h, gi hl, .inl rfl, hd, .inr ⟨rfl, rfl, rfl⟩⟩
      · rename_i hl
        split at h
        · obtain ⟨svs, s, md, h1, h2, h3⟩ := run1 hr h rfl
          exact ⟨σ, _, svs, s, md, h1, gi hl, .inl rfl, h2, .inl ⟨rfl, h3⟩⟩
        · obtain ⟨hd, h⟩ := dstOK_elim h
          exact ⟨σ, _, [], _, _, h, gi hl, .inl rfl, hd, .inr ⟨rfl, rfl, rfl⟩⟩
      · rename_i p ip hl
        by_cases hp : p
        · have hr' := hr.refine hl (pr_true hp)
          split at h
          · obtain ⟨svs, s, md, h1, h2, h3⟩ := run1 hr' (h.yes hp) rfl
            exact ⟨_, _, svs, s, md, h1, gi (put_look _), .inr ⟨t, _, _, hl, pr_true hp, rfl⟩, h2, .inl ⟨rfl, h3⟩⟩
          · obtain ⟨hd, h⟩ := dstOK_elim (h.yes hp)
            exact ⟨_, _, [], _, _, h, gi (put_look _), .inr ⟨t, _, _, hl, pr_true hp, rfl⟩, hd, .inr ⟨rfl, rfl, rfl⟩⟩
        · have hr' := hr.refine hl (pr_false hp)
          split at h
          · obtain ⟨hd, h⟩ := dstOK_elim (h.no hp)
            exact ⟨_, _, [], _, _, h, gi (put_look _), .inr ⟨t, _, _, hl, pr_false hp, rfl⟩, hd, .inr ⟨rfl, rfl, rfl⟩⟩
          · obtain ⟨svs, s, md, h1, h2, h3⟩ := run1 hr' (h.no hp) rfl
            exact ⟨_, _, svs, s, md, h1, gi (put_look _), .inr ⟨t, _, _, hl, pr_false hp, rfl⟩, h2, .inl ⟨rfl, h3⟩⟩
      · rename_i hl
        obtain ⟨hd, h⟩ := dstOK_elim h
        exact ⟨σ, _, [], _, _, h, gv hl, .inl rfl, hd, .inr ⟨rfl, rfl, rfl⟩⟩
      · exact h.elim

theorem Rel.wanted {E : Env} {σ : St} {ρ : Names} {a : Act} {w : World} (h : Rel E σ ρ a w) {all : List Oper} {o : Oper} {run : Bool} (hg : GuardIs all σ o run) : Region.wanted o (yielded all.toArray a.tmps) = run :=
  wanted_of hg h.size fun t _ _ hl => ⟨(h.regs t _ hl).1, (h.regs t _ hl).2.val_inv⟩

/-- A region in the order of its text. -/
theorem ops_seq {P : Program} {Γ : List (TypeId × TI)} (hT : TOK P Γ) {all : List Oper} {draw : Bool} {E : Env} {Q : Exit → Act → World → Prop} {K : St → Prop}
    (hQ : ∀ σ ρ a w, K σ → Rel E σ ρ a w → Q .normal a w) : ∀ {l : List Oper} {i : Nat} {σ : St} {ρ : Names} {a : Act} {w : World}, Rel E σ ρ a w → vcOps P Γ draw all l i σ K → wpList P all.toArray Q l a w
  | [], i, σ, ρ, a, w, hr, h => hQ σ ρ a w h hr
  | o :: r, i, σ, ρ, a, w, hr, h => by
    obtain ⟨σ', run, svs, s, md, h1, hg, href, hd, hrun⟩ := ops_step hT hr h
    have hr' : Rel E σ' ρ a w := by
      rcases href with rfl | ⟨t, s0, s1, h2, h3, rfl⟩
      · exact hr
      · exact hr.refine h2 h3
    have hnt : σ'.nt = σ.nt := by rcases href with rfl | ⟨t, s0, s1, h2, h3, rfl⟩ <;> rfl
    unfold wpList
    rw [hr'.wanted hg]
    rcases hrun with ⟨rfl, hst⟩ | ⟨rfl, rfl, rfl⟩
    · simp only [if_true]
      refine .inl ((hst.does hr').wp fun v w' ha => ?_)
      obtain ⟨ρ', hrel⟩ := hr'.app (fun t e => hnt ▸ hd t e) ha
      exact ops_seq hT hQ hrel h1
    · simp only [Bool.false_eq_true, if_false]
      obtain ⟨ρ', hrel⟩ := hr'.app (fun t e => hnt ▸ hd t e) (skip_after hr'.mem)
      exact ops_seq hT hQ hrel h1

end Go.Gs
