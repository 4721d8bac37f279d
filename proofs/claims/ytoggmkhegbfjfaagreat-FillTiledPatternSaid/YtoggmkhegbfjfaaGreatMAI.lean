/- A function: its contract out of its code. -/
import Derived.Test.YtoggmkhegbfjfaaGreatMAH
import Derived.Defers
namespace Go.Gs

theorem resOne_elim {P : Program} {Γ : List (TypeId × TI)} (hT : TOK P Γ) {σ : St} {x : ResultVar} {K : SV → Prop} (h : resOne σ Γ x K) : ∃ s, K s ∧ ∀ {E : Env} {ρ : Names} {a : Act} {w : World}, Rel E σ ρ a w →
    ∃ v, ((match x with | .tmp t => pure (a.tmps.getD t undef) | .cell ad t => do loadVar t (← asAddr (a.tmps.getD ad undef)) : Sem Value)).run P w = .ok v w ∧ G (fun b => E.Keep b ∨ Own σ.M ρ b) (Own σ.M ρ) ρ w s v := by
  unfold resOne at h
  split at h
  · split at h
    · rename_i s hs
      exact ⟨s, force_elim h, fun hr => ⟨_, rfl, (hr.regs _ s hs).2⟩⟩
    · exact h.elim
  · rename_i ad t
    replace h := withT_elim h; obtain ⟨i, hi, h⟩ := h
    split at h
    · rename_i k off hl
      split at h
      · rename_i T cs hlk
        replace h := guardB_elim h; obtain ⟨hle, h⟩ := h
        replace h := mkV_elim h; obtain ⟨s, hK, h⟩ := h
        have hle := Nat.le_of_ble_eq_true hle
        refine ⟨s, hK, fun {E ρ a w} hr => ?_⟩
        obtain ⟨b, vs, hρ, hheap, hlen, _, hcells⟩ := hr.mem.rel k _ (mem_lookM hlk)
        obtain ⟨b', hρ', hx⟩ := (hr.regs ad _ hl).2.loc_inv
        rw [hρ] at hρ'; cases hρ'
        have hg : Gs (fun b => E.Keep b ∨ Own σ.M ρ b) (Own σ.M ρ) ρ w (cs.drop off) (vs.drop off) := Gs.drop off ⟨hlen, hcells⟩
        obtain ⟨v, h1, h2⟩ := load_run (hT t i hi) (b := b) (o := off) hg (fun j v hv => by rw [cell_row hheap]; simpa using hv) (by simp; omega) h
        exact ⟨v, by simp only [hx, asAddr, Sem.run_bind, Sem.run_pure, Result.andThen_ok, h1], h2⟩
      · exact h.elim
    · exact h.elim

theorem resAll_elim {P : Program} {Γ : List (TypeId × TI)} (hT : TOK P Γ) {σ : St} : ∀ {xs : List ResultVar} {K : List SV → Prop}, resAll σ Γ xs K → ∃ l, K l ∧ ∀ {E : Env} {ρ : Names} {a : Act} {w : World}, Rel E σ ρ a w →
    ∃ vs, (xs.mapM fun x => (match x with | .tmp t => pure (a.tmps.getD t undef) | .cell ad t => do loadVar t (← asAddr (a.tmps.getD ad undef)) : Sem Value)).run P w = .ok vs w ∧ Gs (fun b => E.Keep b ∨ Own σ.M ρ b) (Own σ.M ρ) ρ w l vs
  | [], K, h => ⟨[], h, fun _ => ⟨[], rfl, .nil⟩⟩
  | x :: xs, K, h => by
    obtain ⟨s, h, h1⟩ := resOne_elim hT h
    obtain ⟨l, h, h2⟩ := resAll_elim hT h
    refine ⟨s :: l, h, fun {E ρ a w} hr => ?_⟩
    obtain ⟨v, g1, g2⟩ := h1 hr
    obtain ⟨vs, g3, g4⟩ := h2 hr
    exact ⟨v :: vs, by rw [List.mapM_cons, Sem.run_bind, g1, Result.andThen_ok, Sem.run_bind, g3, Result.andThen_ok, Sem.run_pure], .cons g2 g4⟩

theorem resV_elim {P : Program} {Γ : List (TypeId × TI)} (hT : TOK P Γ) {σ : St} {fn : Func} {K : SV → Prop} (h : resV σ Γ fn.results.toList K) : ∃ s, K s ∧ ∀ {E : Env} {ρ : Names} {a : Act} {w : World}, Rel E σ ρ a w →
    ∃ v, (results fn a.tmps).run P w = .ok v w ∧ G (fun b => E.Keep b ∨ Own σ.M ρ b) (Own σ.M ρ) ρ w s v := by
  unfold resV at h
  obtain ⟨l, h, h1⟩ := resAll_elim hT h
  have run : ∀ {a : Act} {w : World} {vs : List Value}, (fn.results.toList.mapM fun x => (match x with | .tmp t => pure (a.tmps.getD t undef) | .cell ad t => do loadVar t (← asAddr (a.tmps.getD ad undef)) : Sem Value)).run P w = .ok vs w →
      (results fn a.tmps).run P w = .ok (if h : vs.toArray.size = 1 then vs.toArray[0] else .tuple vs.toArray) w := by
    intro a w vs hv
    have e : (fn.results.mapM fun x => (match x with | .tmp t => pure (a.tmps.getD t undef) | .cell ad t => do loadVar t (← asAddr (a.tmps.getD ad undef)) : Sem Value)).run P w = .ok vs.toArray w := by
      rw [Array.mapM_eq_mapM_toList, Sem.run_map, hv]; rfl
    unfold results
    rw [Sem.run_bind]
    erw [e]
    rfl
  split at h
  · rename_i s
    refine ⟨s, h, fun {E ρ a w} hr => ?_⟩
    obtain ⟨vs, g1, g2⟩ := h1 hr
    obtain ⟨v, vs', rfl, g3, g4⟩ := g2.cons_inv
    rw [g4.nil_inv] at g1
    exact ⟨v, by rw [run g1]; rfl, g3⟩
  · rename_i hne
    refine ⟨_, h, fun {E ρ a w} hr => ?_⟩
    obtain ⟨vs, g1, g2⟩ := h1 hr
    refine ⟨.tuple vs.toArray, ?_, .tup _ vs g2.1 g2.2⟩
    rw [run g1]
    have hl : ¬ vs.toArray.size = 1 := by
      intro e
      have : l.length = 1 := by rw [← g2.1]; simpa using e
      match l, this with
      | [s], _ => exact hne s rfl
    rw [dif_neg hl]

theorem paramL_look : ∀ (l : List SV) (n t : Nat), look (paramL n l) t = if n ≤ t then l[t - n]? else none
  | [], n, t => by simp [paramL, look]
  | s :: l, n, t => by
    simp only [paramL, look_cons, paramL_look l (n + 1) t]
    by_cases h : n = t
    · subst h; simp
    · rw [if_neg h]
      by_cases h2 : n ≤ t
      · rw [if_pos (by omega), if_pos h2, show t - n = (t - (n + 1)) + 1 by omega, List.getElem?_cons_succ]
      · rw [if_neg (by omega), if_neg h2]

theorem viewR_g {lm : Nat → Option Mem} {Keep : Nat → Prop} {M : List (Nat × Mem)} {ρ : Names} {w : World} {S' : Nat → Prop} (hlm : ∀ k m, lm k = some m → (k, m) ∈ M) (hm : MemOK Keep M ρ w)
    (hsub : ∀ b, S' b → Keep b ∨ Own M ρ b) {s : SV} {v : Value} (hg : G (fun b => Keep b ∨ Own M ρ b) (Own M ρ) ρ w s v) (hc : ∀ b, Own M ρ b → ¬ S' b) {Pm' : Nat → Prop} (hP : ∀ b, ¬ Pm' b) {ρ' : Names} :
    G S' Pm' ρ' w (viewR lm s) v := by
  unfold viewR
  split
  · rename_i cs
    obtain ⟨vs, rfl, hvs⟩ := hg.tup_inv
    have h := views1_g (S' := S') (Pm' := Pm') (ρ' := ρ') hlm hm hsub (fun b _ => hP b) (fun _ _ b _ _ => hP b) hvs (.inr hc)
    exact .tup _ vs h.1 h.2
  · exact view1_g hlm hm hsub hg (.inr hc) (fun b _ => hP b) (fun _ _ b _ _ => hP b)

/-- At a call: what is known of the frame. -/
theorem enter_rel {Keep : Nat → Prop} {M : List (Nat × Mem)} {ρ : Names} {w : World} {args : List SV} {vs : List Value} {nt : Nat} (hm : MemOK Keep M ρ w) (hρ : ∀ k, M.length ≤ k → ρ k = none)
    (hg : Gs (fun b => Keep b ∨ Own M ρ b) (Own M ρ) ρ w args vs) (hle : args.length ≤ nt) :
    Rel ⟨w, ρ, Keep, Own M ρ, []⟩ ⟨paramL 0 args, M, M.length, nt, M.length⟩ ρ { tmps := vs.toArray ++ Array.replicate (nt - vs.toArray.size) undef, defers := [] } w := by
  have hl := hg.1
  refine ⟨by simp; omega, rfl, fun t s h => ?_, hm, hρ, .refl, hm.kp, fun k v h => ?_⟩
  rotate_left
  · rcases Nat.lt_or_ge k M.length with h1 | h1
    · exact h1
    · have h : ρ k = some v := h
      rw [hρ k h1] at h; cases h
  have h : look (paramL 0 args) t = some s := h
  rw [paramL_look] at h
  simp only [Nat.zero_le, if_true, Nat.sub_zero] at h
  have hlt := (List.getElem?_eq_some_iff.1 h).1
  refine ⟨show t < nt by omega, hg.2 t s _ h ?_⟩
  have : t < vs.length := by omega
  have e : (vs.toArray ++ Array.replicate (nt - vs.toArray.size) undef)[t]? = some vs[t] := by
    rw [Array.getElem?_append_left (by simpa using this)]; simp [this]
  rw [List.getElem?_eq_getElem this, Array.getD_eq_getD_getElem?, e]; rfl

theorem Sub.refl {σ : St} : Sub σ σ := fun _ ρ _ _ hr => ⟨ρ, hr⟩

theorem calls_end {P : Program} {Γ : List (TypeId × TI)} (hT : TOK P Γ) (hm : P.follows .mixedOrders = true) {f : FuncId} {fn : Func} {c : Code} {args : List SV} {M : List (Nat × Mem)} {Q : Ex → St → Prop}
    (hf : P.funcs[f]? = some fn) (hb : fn.body = some c) (hn : (fn.name == "runtime.NumGoroutine") = false) (hle : Nat.ble args.length fn.ntmps = true)
    (h : vcCode P Γ c ⟨paramL 0 args, M, M.length, fn.ntmps, M.length⟩ Q) {r : SV} {M' : List (Nat × Mem)} {Q' : Ex → St → Prop} (hS : ∀ e σ, Q e σ → ∃ σ', Sub σ σ' ∧ Q' e σ')
    (hQ : ∀ e σ, Q' e σ → (∀ id, e ≠ .exit id) → ∃ s, (∀ {E : Env} {ρ : Names} {a : Act} {w : World}, Rel E σ ρ a w → ∃ v, (results fn a.tmps).run P w = .ok v w ∧ G (fun b => E.Keep b ∨ Own σ.M ρ b) (Own σ.M ρ) ρ w s v) ∧
      ∀ {E : Env} {ρ : Names} {a : Act} {w : World} {v : Value}, Rel E σ ρ a w → (∀ b, E.W0 b ↔ Own M E.ρ0 b) → (∀ k, M.length ≤ k → E.ρ0 k = none) → G (fun b => E.Keep b ∨ Own σ.M ρ b) (Own σ.M ρ) ρ w s v →
        ∃ ρ', Stp (Own M E.ρ0) (Own M' ρ') E.ρ0 ρ' E.w0 w ∧ MemOK E.Keep M' ρ' w ∧ G (fun b => E.Keep b ∨ Own M' ρ' b) (Own M' ρ') ρ' w r v)
    (hx : ∀ id σ, ¬ Q' (.exit id) σ) : CallsG P f args M r M' := by
  refine ⟨⟨fn, hf, hn, by rw [hb]; rfl⟩, fun Keep ρ w vs _ hmem hρ hg => calls_of_wp hf hb ?_⟩
  have hrel := enter_rel (nt := fn.ntmps) hmem hρ hg (Nat.le_of_ble_eq_true hle)
  refine Code.wp_mono (fun e a' w' hq => ?_) (code_sound hT hm c hrel h)
  have fin : ∀ e σ ρ1, Q e σ → (∀ id, e ≠ .exit id) → Rel ⟨w, ρ, Keep, Own M ρ, []⟩ σ ρ1 a' w' → a'.defers = [] ∧ ∃ v, (results fn a'.tmps).run P w' = .ok v w' ∧ ∃ v' ρ', Ending.returned v = .returned v' ∧ Stp (Own M ρ) (Own M' ρ') ρ ρ' w w' ∧
      MemOK Keep M' ρ' w' ∧ G (fun b => Keep b ∨ Own M' ρ' b) (Own M' ρ') ρ' w' r v' := by
    intro e σ0 ρ0 hq0 he hr0
    obtain ⟨σ, hsub, hq⟩ := hS e σ0 hq0
    obtain ⟨ρ1, hr⟩ := hsub _ _ _ _ hr0
    obtain ⟨s, h1, h2⟩ := hQ e σ hq he
    obtain ⟨v, g1, g2⟩ := h1 hr
    obtain ⟨ρ', g3, g4, g5⟩ := h2 hr (fun _ => Iff.rfl) hρ g2
    exact ⟨hr.defers, v, g1, v, ρ', rfl, g3, g4, g5⟩
  cases e with
  | normal => obtain ⟨σ, ρ1, hq, hr⟩ := hq; exact fin _ σ ρ1 hq (fun _ => by simp) hr
  | ret => obtain ⟨σ, ρ1, hq, hr⟩ := hq; exact fin _ σ ρ1 hq (fun _ => by simp) hr
  | exit id => obtain ⟨σ, ρ1, hq, hr⟩ := hq; obtain ⟨σ', _, hq'⟩ := hS _ σ hq; exact (hx id σ' hq').elim
  | _ => exact hq.elim

/-- A function that hands back plain data. -/
theorem calls_to {P : Program} {Γ : List (TypeId × TI)} (hT : TOK P Γ) (hm : P.follows .mixedOrders = true) {f : FuncId} {fn : Func} {c : Code} {args : List SV} {r : SV}
    (hf : P.funcs[f]? = some fn) (hb : fn.body = some c) (hn : (fn.name == "runtime.NumGoroutine") = false) (hle : Nat.ble args.length fn.ntmps = true)
    (h : vcCode P Γ c ⟨paramL 0 args, [], 0, fn.ntmps, 0⟩ (endV Γ fn.results.toList r)) : CallsG P f args [] r [] := by
  refine calls_end hT hm hf hb hn hle h (fun e σ h => ⟨σ, .refl, h⟩) (fun e σ hq he => ?_) (fun id σ hq => hq)
  have hq : resV σ Γ fn.results.toList fun s => LE (viewR (lookM σ.M) s) r := by
    cases e with
    | exit id => exact absurd rfl (he id)
    | normal => exact hq
    | ret => exact hq
  obtain ⟨s, hle, h1⟩ := resV_elim hT hq
  refine ⟨s, h1, fun {E ρ a w v} hr hW _ hg => ⟨ρ, ?_, ?_, ?_⟩⟩
  · have hs := hr.stp
    exact ⟨hs.os, hs.tape, hs.output, hs.size, fun b hb hn => hs.block b hb fun h => hn ((hW b).1 h), fun b hb => absurd hb own_nil, hs.rho⟩
  · exact memOK_nil hr.mem.kp
  · exact hle _ _ _ _ _ (viewR_g (fun k m h => mem_lookM h) hr.mem (fun b hb => .inl (hb.resolve_right own_nil)) hg (fun b hb hk => (hr.mem.old b hb).2 (hk.resolve_right own_nil)) (fun _ => own_nil))

theorem Take.g {k : Option Nat} {s r : SV} (h : Take k s r) {S Pm S' Pm' : Nat → Prop} {ρ ρ' : Names} {w : World} {v0 : Value} (hsub : ∀ b, S' b → S b) (h0 : ρ' 0 = some v0)
    (hk : ∀ k', k = some k' → ρ k' = some v0) (hn : k = none → v0 = .slice none 0 0) {v : Value} (hg : G S Pm ρ w s v) : G S' Pm' ρ' w r v := by
  induction h generalizing v with
  | own k' h =>
    obtain ⟨g1, g2⟩ := hg.own_inv
    rw [hk k' h] at g1; cases g1
    exact .own _ _ h0 g2
  | loc k' off h =>
    obtain ⟨b, g1, rfl⟩ := hg.loc_inv
    rw [hk k' h] at g1; cases g1
    exact .loc _ _ _ h0
  | nil h =>
    rw [hg.val_inv]
    exact .own _ _ (by rw [h0, hn h]) rfl
  | le s r h hf => exact .d _ _ ((flat_d hf (h _ _ _ _ _ hg)).less hsub)
  | junk s => exact .d _ _ (.junk _)
  | agg cs ds hl h ih =>
    obtain ⟨vs, rfl, hvs⟩ := hg.agg_inv
    refine .agg _ vs (hvs.1.trans hl) fun j r u hr hu => ?_
    have hj : j < cs.length := by have := (List.getElem?_eq_some_iff.1 hr).1; omega
    exact ih j _ r (List.getElem?_eq_getElem hj) hr (hvs.2 j _ u (List.getElem?_eq_getElem hj) hu)
  | tup cs ds hl h ih =>
    obtain ⟨vs, rfl, hvs⟩ := hg.tup_inv
    refine .tup _ vs (hvs.1.trans hl) fun j r u hr hu => ?_
    have hj : j < cs.length := by have := (List.getElem?_eq_some_iff.1 hr).1; omega
    exact ih j _ r (List.getElem?_eq_getElem hj) hr (hvs.2 j _ u (List.getElem?_eq_getElem hj) hu)
  | fn f cs ds hl h ih =>
    obtain ⟨vs, rfl, hvs⟩ := hg.fn_inv
    refine .fn _ _ vs (hvs.1.trans hl) fun j r u hr hu => ?_
    have hj : j < cs.length := by have := (List.getElem?_eq_some_iff.1 hr).1; omega
    exact ih j _ r (List.getElem?_eq_getElem hj) hr (hvs.2 j _ u (List.getElem?_eq_getElem hj) hu)

/-- A function that hands back data in which a block of its own lies. -/
theorem calls_ownQ {P : Program} {Γ : List (TypeId × TI)} (hT : TOK P Γ) (hm : P.follows .mixedOrders = true) {f : FuncId} {fn : Func} {c : Code} {args : List SV} {r : SV} {m : Mem} {Q : Ex → St → Prop}
    (hf : P.funcs[f]? = some fn) (hb : fn.body = some c) (hn : (fn.name == "runtime.NumGoroutine") = false) (hle : Nat.ble args.length fn.ntmps = true)
    (h : vcCode P Γ c ⟨paramL 0 args, [], 0, fn.ntmps, 0⟩ Q) (hS : ∀ e σ, Q e σ → ∃ σ', Sub σ σ' ∧ endOwn Γ fn.results.toList r m e σ') : CallsG P f args [] r [(0, m)] := by
  refine calls_end hT hm hf hb hn hle h hS (fun e σ hq he => ?_) (fun id σ hq => hq)
  have hq : resV σ Γ fn.results.toList fun s => ∃ k, Take k s r ∧ takeM σ.M k m := by
    cases e with
    | exit id => exact absurd rfl (he id)
    | normal => exact hq
    | ret => exact hq
  obtain ⟨s, ⟨k, htk, hmk⟩, h1⟩ := resV_elim hT hq
  refine ⟨s, h1, fun {E ρ a w v} hr hW hρ0 hg => ?_⟩
  have hs := hr.stp
  have main : ∀ v0 : Value, (∀ b, blkOf v0 = some b → Own σ.M ρ b) → (∀ k', k = some k' → ρ k' = some v0) → (k = none → v0 = .slice none 0 0) →
      (∀ S Pm : Nat → Prop, (∀ b, S b → E.Keep b ∨ Own σ.M ρ b) → MRel S Pm (one v0) w 0 m) →
      ∃ ρ', Stp (Own [] E.ρ0) (Own [(0, m)] ρ') E.ρ0 ρ' E.w0 w ∧ MemOK E.Keep [(0, m)] ρ' w ∧ G (fun b => E.Keep b ∨ Own [(0, m)] ρ' b) (Own [(0, m)] ρ') ρ' w r v := by
    intro v0 hown hk hnone hrel
    have hsub : ∀ b, Own [(0, m)] (one v0) b → Own σ.M ρ b := fun b hb => hown b (own_one.1 hb)
    refine ⟨one v0, ⟨hs.os, hs.tape, hs.output, hs.size, fun b hb hn => hs.block b hb fun h => hn ((hW b).1 h), fun b hb => (hs.own b (hsub b hb)).imp (hW b).1 id, fun k' v' hv' => ?_⟩, ?_, ?_⟩
    · rw [hρ0 k' (Nat.zero_le _)] at hv'; cases hv'
    · refine ⟨fun k' m1 h => ?_, List.pairwise_cons.2 ⟨fun _ h => (by cases h), List.Pairwise.nil⟩, fun k1 m1 k2 m2 _ _ _ h1 h2 hne => ?_, fun b hb => hr.mem.old b (hsub b hb), hr.mem.kp⟩
      · cases h with
        | head => exact hrel _ _ fun b hb => hb.imp id (hsub b)
        | tail _ h => cases h
      · cases h1 with
        | head => cases h2 with
          | head => exact absurd rfl hne
          | tail _ h => cases h
        | tail _ h => cases h
    · exact htk.g (fun b hb => hb.imp id (hsub b)) one_zero hk hnone hg
  cases k with
  | some k' =>
    obtain ⟨hlk, hfm⟩ := hmk
    have hmem := mem_lookM hlk
    obtain ⟨v0, hv0⟩ := (hr.mem.rel k' m hmem).name
    exact main v0 (fun b hb => ⟨k', m, v0, hmem, hv0, hb⟩) (fun k2 e => by cases e; exact hv0) (fun e => by cases e)
      fun S Pm hS => MRel.move (by rw [one_zero, hv0]) hfm (fun s u _ hd => .inl (hd.less hS)) (hr.mem.rel k' m hmem)
  | none =>
    cases m with
    | box T cs => exact hmk.elim
    | garr T sz xs => exact hmk.elim
    | map es => exact hmk.elim
    | arr T enc sz xs =>
      have hx : xs = [] := hmk
      subst hx
      exact main (.slice none 0 0) (fun b hb => by simp [blkOf] at hb) (fun _ e => by cases e) (fun _ => rfl)
        fun S Pm _ => ⟨.slice none 0 0, [], one_zero, World.ownsRow_nil w 0 T sz, by simp, fun u hu => (by cases hu), fun x hx => (by cases hx), fun i j x s hx => (by simp at hx)⟩

theorem calls_own {P : Program} {Γ : List (TypeId × TI)} (hT : TOK P Γ) (hm : P.follows .mixedOrders = true) {f : FuncId} {fn : Func} {c : Code} {args : List SV} {r : SV} {m : Mem}
    (hf : P.funcs[f]? = some fn) (hb : fn.body = some c) (hn : (fn.name == "runtime.NumGoroutine") = false) (hle : Nat.ble args.length fn.ntmps = true)
    (h : vcCode P Γ c ⟨paramL 0 args, [], 0, fn.ntmps, 0⟩ (endOwn Γ fn.results.toList r m)) : CallsG P f args [] r [(0, m)] :=
  calls_ownQ hT hm hf hb hn hle h fun _ σ h => ⟨σ, .refl, h⟩

/-- The same; at the end one state may say less than it could. -/
theorem calls_own_sub {P : Program} {Γ : List (TypeId × TI)} (hT : TOK P Γ) (hm : P.follows .mixedOrders = true) {f : FuncId} {fn : Func} {c : Code} {args : List SV} {r : SV} {m : Mem}
    (hf : P.funcs[f]? = some fn) (hb : fn.body = some c) (hn : (fn.name == "runtime.NumGoroutine") = false) (hle : Nat.ble args.length fn.ntmps = true)
    (h : vcCode P Γ c ⟨paramL 0 args, [], 0, fn.ntmps, 0⟩ (fun e σ => ∃ σ', Sub σ σ' ∧ endOwn Γ fn.results.toList r m e σ')) : CallsG P f args [] r [(0, m)] :=
  calls_ownQ hT hm hf hb hn hle h fun _ _ h => h

/-- What a function hands back, its own block among it, seen as plain data. -/
theorem CallsG.plain {P : Program} {f : FuncId} {args : List SV} {r r' : SV} {m : Mem} (h : CallsG P f args [] r [(0, m)]) (e : viewR (lookM [(0, m)]) r = r') : CallsG P f args [] r' [] := by
  subst e
  refine ⟨h.1, fun Keep ρ w vs hk hm hρ hg => (h.2 Keep ρ w vs hk hm hρ hg).mono fun _ _ ⟨v, ρ', e, hs, hm', hgr⟩ => ?_⟩
  refine ⟨v, ρ, e, ⟨hs.os, hs.tape, hs.output, hs.size, hs.block, fun b hb => .inl (own_nil hb |>.elim), fun _ _ h => h⟩, memOK_nil hm'.kp, ?_⟩
  exact viewR_g (fun k m h => mem_lookM h) hm' (fun b hb => hb.elim .inl fun h => (own_nil h).elim) hgr (fun b hb hSb => hSb.elim (hm'.old b hb).2 fun h => own_nil h) (fun b => own_nil)

/-- A function that is handed a block, writes it, and hands back plain data. -/
theorem calls_mut {P : Program} {Γ : List (TypeId × TI)} (hT : TOK P Γ) (hm : P.follows .mixedOrders = true) {f : FuncId} {fn : Func} {c : Code} {args : List SV} {r : SV} {m m' : Mem}
    (hf : P.funcs[f]? = some fn) (hb : fn.body = some c) (hn : (fn.name == "runtime.NumGoroutine") = false) (hle : Nat.ble args.length fn.ntmps = true) (hfm : flatM m') (hfr : flatR r = true)
    (h : vcCode P Γ c ⟨paramL 0 args, [(0, m)], 1, fn.ntmps, 1⟩ (endMut Γ fn.results.toList r m')) : CallsG P f args [(0, m)] r [(0, m')] := by
  refine calls_end hT hm hf hb hn hle h (fun e σ h => ⟨σ, .refl, h⟩) (fun e σ hq he => ?_) (fun id σ hq => hq)
  have hq : resV σ Γ fn.results.toList fun s => (lookM σ.M 0 = some m' ∧ LE s r) := by
    cases e with
    | exit id => exact absurd rfl (he id)
    | normal => exact hq
    | ret => exact hq
  obtain ⟨s, ⟨hlk, hle⟩, h1⟩ := resV_elim hT hq
  refine ⟨s, h1, fun {E ρ a w v} hr hW hρ0 hg => ?_⟩
  have hs := hr.stp
  have hmem := mem_lookM hlk
  obtain ⟨v0, hv0⟩ := (hr.mem.rel 0 m' hmem).name
  have hsub : ∀ b, Own [(0, m')] (one v0) b → Own σ.M ρ b := fun b hb => ⟨0, m', v0, hmem, hv0, own_one.1 hb⟩
  refine ⟨one v0, ⟨hs.os, hs.tape, hs.output, hs.size, fun b hb hn => hs.block b hb fun h => hn ((hW b).1 h), fun b hb => (hs.own b (hsub b hb)).imp (hW b).1 id, fun k' v' hv' => ?_⟩, ?_, ?_⟩
  · by_cases hk : k' = 0
    · subst hk
      have := hs.rho 0 v' hv'
      rw [hv0] at this; cases this; exact one_zero
    · rw [hρ0 k' (by simp; omega)] at hv'; cases hv'
  · refine ⟨fun k' m1 h => ?_, List.pairwise_cons.2 ⟨fun _ h => (by cases h), List.Pairwise.nil⟩, fun k1 m1 k2 m2 _ _ _ h1 h2 hne => ?_, fun b hb => hr.mem.old b (hsub b hb), hr.mem.kp⟩
    · cases h with
      | head => exact MRel.move (by rw [one_zero, hv0]) hfm (fun s u _ hd => .inl (hd.less fun b hb => hb.imp id (hsub b))) (hr.mem.rel 0 m' hmem)
      | tail _ h => cases h
    · cases h1 with
      | head => cases h2 with
        | head => exact absurd rfl hne
        | tail _ h => cases h
      | tail _ h => cases h
  · exact flatR_g (fun b hb => hb.imp id (hsub b)) hfr (hle _ _ _ _ _ hg)

end Go.Gs
/- The table of types, looked at by the kernel; one state says more than another; what one value says of another. -/
namespace Go.Gs

def vEq : Value → Value → Bool
  | .int k m, .int k' n => kBeq k k' && decide (m = n)
  | .bool a, .bool b => a == b
  | .slice none l c, .slice none l' c' => Nat.beq l l' && Nat.beq c c'
  | .pointer none, .pointer none => true
  | .map none, .map none => true
  | .nilFunc, .nilFunc => true
  | .nilIface, .nilIface => true
  | .string a, .string b => a.data.toList.isEmpty && b.data.toList.isEmpty
  | _, _ => false
theorem vEq_eq {a b : Value} (h : vEq a b = true) : a = b := by
  unfold vEq at h
  split at h
  · simp only [Bool.and_eq_true, decide_eq_true_eq] at h; rw [kBeq_eq h.1, h.2]
  · simp at h; rw [h]
  · simp only [Bool.and_eq_true] at h; rw [Nat.eq_of_beq_eq_true h.1, Nat.eq_of_beq_eq_true h.2]
  · rfl
  · rfl
  · rfl
  · rfl
  · rename_i a b
    simp only [Bool.and_eq_true, List.isEmpty_iff] at h
    obtain ⟨⟨a⟩⟩ := a
    obtain ⟨⟨b⟩⟩ := b
    simp at h; simp [h]
  · cases h
def vsEq : List Value → List Value → Bool
  | [], [] => true
  | a :: r, b :: r' => vEq a b && vsEq r r'
  | _, _ => false
theorem vsEq_eq : ∀ {a b : List Value}, vsEq a b = true → a = b
  | [], [], _ => rfl
  | [], _ :: _, h => by cases h
  | _ :: _, [], h => by cases h
  | a :: r, b :: r', h => by simp only [vsEq, Bool.and_eq_true] at h; rw [vEq_eq h.1, vsEq_eq h.2]
def fsEq : List (Nat × TypeId) → List (Nat × TypeId) → Bool
  | [], [] => true
  | (a, b) :: r, (a', b') :: r' => Nat.beq a a' && (Nat.beq b b' && fsEq r r')
  | _, _ => false
theorem fsEq_eq : ∀ {a b : List (Nat × TypeId)}, fsEq a b = true → a = b
  | [], [], _ => rfl
  | [], _ :: _, h => by cases h
  | _ :: _, [], h => by cases h
  | (a, b) :: r, (a', b') :: r', h => by
    simp only [fsEq, Bool.and_eq_true] at h
    rw [Nat.eq_of_beq_eq_true h.1, Nat.eq_of_beq_eq_true h.2.1, fsEq_eq h.2.2]

def kindB (P : Program) (t : TypeId) (k : TK) : Bool :=
  match k, P.underlying t with
  | .int k, some (.int k') => kBeq k' k
  | .bool, some .bool => true
  | .str, some .string => true
  | .ptr e, some (.pointer e') => Nat.beq e' e
  | .slice e, some (.slice e') => Nat.beq e' e
  | .arr n e, some (.array n' e') => Nat.beq n' n && Nat.beq e' e
  | .struct fs, some (.struct F) => fsEq (F.toList.map fun f => (f.offset, f.type)) fs && (F.toList.mapM fun f => (P.info? f.type).map fun i => (f.offset, i.size)).isSome
  | .map k e, some (.map k' e') => Nat.beq k' k && Nat.beq e' e
  | .other, some (.func _ _ _) => true
  | .iface, some (.interface _) => true
  | _, _ => false
theorem kindB_ok {P : Program} {t : TypeId} {k : TK} (h : kindB P t k = true) : KindOK P t k := by
  unfold kindB at h
  split at h
  · rename_i hu; exact (kBeq_eq h) ▸ hu
  · assumption
  · assumption
  · rename_i hu; exact (Nat.eq_of_beq_eq_true h) ▸ hu
  · rename_i hu; exact (Nat.eq_of_beq_eq_true h) ▸ hu
  · rename_i hu
    simp only [Bool.and_eq_true] at h
    have h1 := Nat.eq_of_beq_eq_true h.1
    have h2 := Nat.eq_of_beq_eq_true h.2
    subst h1; subst h2; exact hu
  · rename_i hu
    simp only [Bool.and_eq_true] at h
    exact ⟨_, hu, fsEq_eq h.1, Option.isSome_iff_exists.1 h.2⟩
  · rename_i hu
    simp only [Bool.and_eq_true] at h
    have h1 := Nat.eq_of_beq_eq_true h.1
    have h2 := Nat.eq_of_beq_eq_true h.2
    subst h1; subst h2; exact hu
  · rename_i hu; exact ⟨_, hu, fun w => by simp [isAgg, run_underlying hu]⟩
  · rename_i hu; exact ⟨_, hu⟩
  · cases h

def isAggV : Value → Bool
  | .agg _ => true
  | _ => false
def chkT (P : Program) (t : TypeId) (i : TI) : Bool :=
  (match P.info? t with
  | some f => Nat.beq f.size i.sz && (Nat.beq f.bytes i.bytes && (match f.zero with
    | some z => vsEq z.cells.toList i.zero && ((i.kind.agg || z.oneCell') && (!i.kind.agg || isAggV z))
    | none => false))
  | none => false) && (Nat.beq i.zero.length i.sz && (i.zero.all (·.oneCell') && (kindB P t i.kind &&
  (!i.cmp || (!P.stoodInHeld t && (!P.eqGuardType P.depth t && (P.fieldsOf t).toList.all fun f => !(f.name == "_")))))))

theorem chkT_ok {P : Program} {t : TypeId} {i : TI} (h : chkT P t i = true) : TOne P t i := by
  unfold chkT at h
  simp only [Bool.and_eq_true] at h
  obtain ⟨h1, h2, h3, h4, h5⟩ := h
  refine ⟨?_, kindB_ok h4, fun hg => ?_, fun hc => ?_⟩
  · split at h1
    · rename_i f hf
      simp only [Bool.and_eq_true] at h1
      obtain ⟨g1, g2, g3⟩ := h1
      split at g3
      · rename_i z hz
        simp only [Bool.and_eq_true] at g3
        exact ⟨f, hf, Nat.eq_of_beq_eq_true g1, Nat.eq_of_beq_eq_true g2, z, hz, vsEq_eq g3.1, fun ha => one_cells (by simpa [ha] using g3.2.1), Nat.eq_of_beq_eq_true h2, fun v hv => List.all_eq_true.1 h3 v hv⟩
      · cases g3
    · cases h1
  · split at h1
    · rename_i f hf
      simp only [Bool.and_eq_true] at h1
      obtain ⟨g1, g2, g3⟩ := h1
      split at g3
      · rename_i z hz
        simp only [Bool.and_eq_true, hg, Bool.not_true, Bool.false_or] at g3
        refine ⟨f, hf, ?_⟩
        cases z with
        | agg a => rw [hz, ← vsEq_eq g3.1]; simp [Value.cells]
        | _ => exact absurd g3.2.2 (by simp [isAggV])
      · cases g3
    · cases h1
  · simp only [hc, Bool.not_true, Bool.false_or, Bool.and_eq_true, Bool.not_eq_true'] at h5
    refine ⟨h5.1, h5.2.1, fun f hf => ?_⟩
    have := List.all_eq_true.1 h5.2.2 f hf
    simpa using this

def chkAll (P : Program) (Γ : List (TypeId × TI)) : Bool := Γ.all fun p => chkT P p.1 p.2
theorem tok_of {P : Program} {Γ : List (TypeId × TI)} (h : chkAll P Γ = true) : TOK P Γ := by
  intro t i hi
  have hm : (t, i) ∈ Γ := by
    clear h
    induction Γ with
    | nil => cases hi
    | cons x r ih =>
      obtain ⟨k, s⟩ := x
      simp only [ti] at hi
      split at hi
      · rename_i hb; have := Nat.eq_of_beq_eq_true hb; subst this; cases hi; exact .head _
      · exact .tail _ (ih hi)
  exact chkT_ok (List.all_eq_true.1 h _ hm)

/-! ### One state says more than another -/
/-- Which name a block of one's own had before: none for a nil slice. -/
def nmOf : List (Nat × Option Nat) → Nat → Option (Option Nat)
  | [], _ => none
  | (k, s) :: r, t => match Nat.beq k t with
    | true => some s
    | false => nmOf r t
/-- A symbolic value with the names as they were before. -/
def ren (tb : List (Nat × Option Nat)) (s : SV) : Option SV :=
  match s with
  | .loc k off => (match nmOf tb k with
    | some (some j) => some (.loc j off)
    | _ => none)
  | .own k => (match nmOf tb k with
    | some (some j) => some (.own j)
    | some none => some (.val (.slice none 0 0))
    | none => none)
  | .fn f cs => (match rens tb cs with
    | some cs' => some (.fn f cs')
    | none => none)
  | .agg cs => (match rens tb cs with
    | some cs' => some (.agg cs')
    | none => none)
  | .ifc t s => (match ren tb s with
    | some s' => some (.ifc t s')
    | none => none)
  | .tup cs => (match rens tb cs with
    | some cs' => some (.tup cs')
    | none => none)
  | .win k sz lo n => (match nmOf tb k with
    | some (some j) => some (.win j sz lo n)
    | _ => none)
  | .eloc k sz i off => (match nmOf tb k with
    | some (some j) => some (.eloc j sz i off)
    | _ => none)
  | s => some s
  where
  rens (tb : List (Nat × Option Nat)) : List SV → Option (List SV)
    | [] => some []
    | c :: cs => (match ren tb c, rens tb cs with
      | some c', some cs' => some (c' :: cs')
      | _, _ => none)

def subL (tb : List (Nat × Option Nat)) (L : List (Nat × SV)) : List (Nat × SV) → Prop
  | [] => True
  | (t, s) :: r => (match ren tb s with
    | some s' => look L t = some s'
    | none => False) ∧ subL tb L r
def subMem (tb : List (Nat × Option Nat)) (M : List (Nat × Mem)) (k : Nat) (m : Mem) : Prop :=
  match nmOf tb k with
  | some (some j) => (match m with
    | .box T cs => (match ren.rens tb cs with
      | some cs' => lookM M j = some (.box T cs')
      | none => False)
    | .garr T sz xs => ∃ xs', lookM M j = some (.garr T sz xs') ∧ xs'.length = xs.length ∧ ∀ (i : Nat) x, xs[i]? = some x → ∃ x', xs'[i]? = some x' ∧ ren.rens tb x = some x'
    | m => lookM M j = some m)
  | some none => (match m with
    | .arr _ _ _ xs => Nat.beq xs.length 0 = true
    | _ => False)
  | none => False
def subM (tb : List (Nat × Option Nat)) (M : List (Nat × Mem)) : List (Nat × Mem) → Prop
  | [] => True
  | (k, m) :: r => subMem tb M k m ∧ subM tb M r
/-- Each name once, the old ones too; all below the new count. -/
def tabOK : List (Nat × Option Nat) → Nat → Bool
  | [], _ => true
  | (k, j) :: r, nk => Nat.blt k nk && (r.all (fun x => !(Nat.beq x.1 k) && (match x.2, j with
    | some a, some b => !(Nat.beq a b)
    | _, _ => true)) && tabOK r nk)

def lowOK (tb : List (Nat × Option Nat)) : Nat → Bool
  | 0 => true
  | n + 1 => (match nmOf tb n with
    | some (some j) => Nat.beq j n && lowOK tb n
    | _ => false)
def keysOK (tb : List (Nat × Option Nat)) : List (Nat × Mem) → Bool
  | [] => true
  | (k, _) :: r => r.all (fun x => !(Nat.beq x.1 k)) && keysOK tb r

/-- The names as they are now. -/
def names (tb : List (Nat × Option Nat)) (ρ : Names) : Names := fun k => match nmOf tb k with
  | some (some j) => ρ j
  | some none => some (.slice none 0 0)
  | none => none

theorem nmOf_lt {tb : List (Nat × Option Nat)} {nk k : Nat} {x : Option Nat} (h : tabOK tb nk = true) (hk : nmOf tb k = some x) : k < nk := by
  induction tb with
  | nil => cases hk
  | cons y r ih =>
    obtain ⟨k', j⟩ := y
    simp only [tabOK, Bool.and_eq_true] at h
    simp only [nmOf] at hk
    split at hk
    · rename_i hb; have := Nat.eq_of_beq_eq_true hb; subst this; exact Nat.le_of_ble_eq_true h.1
    · exact ih h.2.2 hk

theorem nmOf_mem {tb : List (Nat × Option Nat)} {k : Nat} {x : Option Nat} (hk : nmOf tb k = some x) : (k, x) ∈ tb := by
  induction tb with
  | nil => cases hk
  | cons y r ih =>
    obtain ⟨k', j⟩ := y
    simp only [nmOf] at hk
    split at hk
    · rename_i hb; have := Nat.eq_of_beq_eq_true hb; subst this; cases hk; exact .head _
    · exact .tail _ (ih hk)

theorem nmOf_inj {tb : List (Nat × Option Nat)} {nk k k' j : Nat} (h : tabOK tb nk = true) (hk : nmOf tb k = some (some j)) (hk' : nmOf tb k' = some (some j)) : k = k' := by
  induction tb with
  | nil => cases hk
  | cons y r ih =>
    obtain ⟨k0, j0⟩ := y
    simp only [tabOK, Bool.and_eq_true] at h
    have hall := List.all_eq_true.1 h.2.1
    have no : ∀ q, (q, some j) ∈ r → j0 ≠ some j := fun q hq e => by
      subst e
      have := hall _ hq
      simp [Nat.beq_refl] at this
    simp only [nmOf] at hk hk'
    split at hk
    · rename_i hb
      have e1 := Nat.eq_of_beq_eq_true hb
      cases hk
      split at hk'
      · rename_i hb'
        exact e1.symm.trans (Nat.eq_of_beq_eq_true hb')
      · exact absurd rfl (no k' (nmOf_mem hk'))
    · split at hk'
      · cases hk'
        exact absurd rfl (no k (nmOf_mem hk))
      · exact ih h.2.2 hk hk'

theorem ren_g {tb : List (Nat × Option Nat)} {S Pm : Nat → Prop} {ρ : Names} {w : World} : ∀ (s : SV) {s' : SV} {v : Value}, ren tb s = some s' → G S Pm ρ w s' v → G S Pm (names tb ρ) w s v := by
  intro s
  induction s using SV.rec (motive_2 := fun cs => ∀ {cs' : List SV} {vs : List Value}, ren.rens tb cs = some cs' → Gs S Pm ρ w cs' vs → Gs S Pm (names tb ρ) w cs vs) with
  | val v => intro s' u h hg; simp only [ren] at h; cases h; exact .d _ _ (hg.val_inv ▸ .val _)
  | pr p i => intro s' u h hg; simp only [ren] at h; cases h; rw [hg.pr_inv]; exact .d _ _ (.pr p i)
  | agg cs ih =>
    intro s' u h hg
    simp only [ren] at h
    split at h
    · rename_i cs' hc; cases h
      obtain ⟨vs, rfl, hvs⟩ := hg.agg_inv
      have := ih hc hvs
      exact .agg _ vs this.1 this.2
    · cases h
  | sl enc xs => intro s' u h hg; simp only [ren] at h; cases h; exact .d _ _ hg.sl_inv
  | ptr cs ih =>
    intro s' u h hg; simp only [ren] at h; cases h
    obtain ⟨b, o, c, rfl, hb, hP, hc, hd⟩ := hg.ptr_inv
    exact .ptr cs b o c hb hP hc hd
  | loc k off =>
    intro s' u h hg
    simp only [ren] at h
    split at h
    · rename_i j hj; cases h
      obtain ⟨b, hρ, rfl⟩ := hg.loc_inv
      exact .loc _ _ b (by simp [names, hj, hρ])
    · cases h
  | own k =>
    intro s' u h hg
    simp only [ren] at h
    split at h
    · rename_i j hj; cases h
      obtain ⟨hρ, h1⟩ := hg.own_inv
      exact .own _ _ (by simp [names, hj, hρ]) h1
    · rename_i hj; cases h
      rw [hg.val_inv]
      exact .own _ _ (by simp [names, hj]) rfl
    · cases h
  | win k sz lo n =>
    intro s' u h hg
    simp only [ren] at h
    split at h
    · rename_i j hj; cases h
      obtain ⟨b, len, cap, cap', hρ, rfl, h1, h2⟩ := hg.win_inv
      exact .win _ _ _ _ b len cap cap' (by simp [names, hj, hρ]) h1 h2
    · cases h
  | eloc k sz i off =>
    intro s' u h hg
    simp only [ren] at h
    split at h
    · rename_i j hj; cases h
      obtain ⟨b, len, cap, hρ, rfl⟩ := hg.eloc_inv
      exact .eloc _ _ _ _ b len cap (by simp [names, hj, hρ])
    · cases h
  | fn f cs ih =>
    intro s' u h hg
    simp only [ren] at h
    split at h
    · rename_i cs' hc; cases h
      obtain ⟨vs, rfl, hvs⟩ := hg.fn_inv
      have := ih hc hvs
      exact .fn f _ vs this.1 this.2
    · cases h
  | tup cs ih =>
    intro s' u h hg
    simp only [ren] at h
    split at h
    · rename_i cs' hc; cases h
      obtain ⟨vs, rfl, hvs⟩ := hg.tup_inv
      have := ih hc hvs
      exact .tup _ vs this.1 this.2
    · cases h
  | dptr cs ih => intro s' u h hg; simp only [ren] at h; cases h; cases hg with | d _ _ h => exact .d _ _ h
  | dfn f cs ih => intro s' u h hg; simp only [ren] at h; cases h; cases hg with | d _ _ h => exact .d _ _ h
  | ifc t s ih =>
    intro s' u h hg
    simp only [ren] at h
    split at h
    · rename_i s1 hs; cases h
      obtain ⟨v, rfl, hv⟩ := hg.ifc_inv
      exact .ifc t s v (ih hs hv)
    · cases h
  | junk => intro s' u h hg; exact .d _ _ (.junk u)
  | nils => intro s' u h hg; simp only [ren] at h; cases h; obtain ⟨a, rfl⟩ := hg.nils_inv; exact .d _ _ (.nils a)
  | full enc xs => intro s' u h hg; simp only [ren] at h; cases h; obtain ⟨a, rfl, hd⟩ := hg.full_inv; exact .d _ _ (.full enc xs a hd)
  | anyb => intro s' u h hg; simp only [ren] at h; cases h; obtain ⟨b, rfl⟩ := hg.anyb_inv; exact .d _ _ (.anyb b)
  | nil => rename_i h hg; simp only [ren.rens] at h; cases h; rw [hg.nil_inv]; exact .nil
  | cons c cs ihc ihcs =>
    rename_i h hg
    simp only [ren.rens] at h
    split at h
    · rename_i c' cs'' hc hcs; cases h
      obtain ⟨v, vs', rfl, h1, h2⟩ := hg.cons_inv
      exact .cons (ihc hc h1) (ihcs hcs h2)
    · cases h

theorem subL_look {tb : List (Nat × Option Nat)} {L : List (Nat × SV)} : ∀ {L' : List (Nat × SV)}, subL tb L L' → ∀ t s, look L' t = some s → ∃ s', ren tb s = some s' ∧ look L t = some s'
  | [], _, t, s, h => by cases h
  | (t0, s0) :: r, hL, t, s, h => by
    obtain ⟨h1, h2⟩ := hL
    rw [look_cons] at h
    split at h
    · rename_i e; subst e; cases h
      split at h1
      · exact ⟨_, ‹_›, h1⟩
      · exact h1.elim
    · exact subL_look h2 t s h

theorem subM_mem {tb : List (Nat × Option Nat)} {M : List (Nat × Mem)} : ∀ {M' : List (Nat × Mem)}, subM tb M M' → ∀ k m, (k, m) ∈ M' → subMem tb M k m
  | [], _, k, m, h => by cases h
  | (k0, m0) :: r, hM, k, m, h => by
    cases h with
    | head => exact hM.1
    | tail _ h => exact subM_mem hM.2 k m h

theorem keysOK_pw {tb : List (Nat × Option Nat)} : ∀ {M : List (Nat × Mem)}, keysOK tb M = true → M.Pairwise fun a b => a.1 ≠ b.1
  | [], _ => .nil
  | (k, m) :: r, h => by
    simp only [keysOK, Bool.and_eq_true] at h
    refine List.pairwise_cons.2 ⟨fun x hx e => ?_, keysOK_pw h.2⟩
    have := List.all_eq_true.1 h.1 x hx
    have e : k = x.1 := e
    simp [← e, Nat.beq_refl] at this

theorem lowOK_nm {tb : List (Nat × Option Nat)} : ∀ {n : Nat}, lowOK tb n = true → ∀ k, k < n → nmOf tb k = some (some k)
  | 0, _, k, hk => by omega
  | n + 1, h, k, hk => by
    simp only [lowOK] at h
    split at h
    · rename_i j hj
      simp only [Bool.and_eq_true] at h
      have := Nat.eq_of_beq_eq_true h.1
      subst this
      by_cases e : k = j
      · subst e; exact hj
      · exact lowOK_nm h.2 k (by omega)
    · cases h

theorem rens_get {tb : List (Nat × Option Nat)} : ∀ (cs cs' : List SV), ren.rens tb cs = some cs' → cs'.length = cs.length ∧ ∀ (i : Nat) (s : SV), cs[i]? = some s → ∃ s', cs'[i]? = some s' ∧ ren tb s = some s' := by
    intro cs
    induction cs with
    | nil => intro cs' h; simp only [ren.rens] at h; cases h; exact ⟨rfl, fun i s h => by simp at h⟩
    | cons c cs ih =>
      intro cs' h
      simp only [ren.rens] at h
      split at h
      · rename_i c' cs'' hc hcs; cases h
        obtain ⟨e1, e2⟩ := ih cs'' hcs
        refine ⟨by simp [e1], fun i s hi => ?_⟩
        cases i with
        | zero => simp at hi; subst hi; exact ⟨c', rfl, hc⟩
        | succ i => simpa using e2 i s (by simpa using hi)
      · cases h

/-- ONE STATE SAYS MORE THAN ANOTHER: every temporary that the other names holds what it says; names of blocks may turn. -/
theorem sub_of {σ : St} (tb : List (Nat × Option Nat)) {L' : List (Nat × SV)} {M' : List (Nat × Mem)} {nk' : Nat} (h1 : tabOK tb nk' = true) (h2 : lowOK tb σ.n0 = true) (h3 : keysOK tb M' = true)
    (hL : subL tb σ.L L') (hM : subM tb σ.M M') : Sub σ ⟨L', M', nk', σ.nt, σ.n0⟩ := by
  intro E ρ a w hr
  refine ⟨names tb ρ, ?_⟩
  have hnm : ∀ k v, names tb ρ k = some v → (∃ j, nmOf tb k = some (some j) ∧ ρ j = some v) ∨ (nmOf tb k = some none ∧ v = .slice none 0 0) := by
    intro k v h
    unfold names at h
    split at h
    · exact .inl ⟨_, ‹_›, h⟩
    · cases h; exact .inr ⟨‹_›, rfl⟩
    · cases h
  have hlook : ∀ k j m, (k, m) ∈ M' → nmOf tb k = some (some j) → ∃ m0, (j, m0) ∈ σ.M := by
    intro k j m hk hj
    have := subM_mem hM k m hk
    unfold subMem at this
    rw [hj] at this
    simp only at this
    split at this
    · split at this
      · exact ⟨_, mem_lookM this⟩
      · exact this.elim
    · obtain ⟨xs', h, _⟩ := this; exact ⟨_, mem_lookM h⟩
    · exact ⟨_, mem_lookM this⟩
  have hown : ∀ b, Own M' (names tb ρ) b → Own σ.M ρ b := by
    rintro b ⟨k, m, v, hk, hv, hb⟩
    rcases hnm k v hv with ⟨j, hj, hρ⟩ | ⟨_, rfl⟩
    · obtain ⟨m0, hm0⟩ := hlook k j m hk hj
      exact ⟨j, m0, v, hm0, hρ, hb⟩
    · cases hb
  have hg : ∀ s s' v, ren tb s = some s' → G (fun b => E.Keep b ∨ Own σ.M ρ b) (Own σ.M ρ) ρ w s' v → G (fun b => E.Keep b ∨ Own M' (names tb ρ) b) (Own M' (names tb ρ)) (names tb ρ) w s v := fun s s' v hs h =>
    ren_g s hs (h.mono (Nat.le_refl _) (fun b _ hb => ⟨fun h => hb (h.imp id (hown b)), rfl⟩) (fun b _ hb => ⟨fun h => hb (hown b h), rfl⟩) (fun _ _ h => h))
  refine ⟨hr.size, hr.defers, fun t s hl => ?_, ⟨fun k m hk => ?_, keysOK_pw h3, fun k m k' m' v v' b hk hk' hne hv hv' hb => ?_, fun b hb => hr.mem.old b (hown b hb), hr.mem.kp⟩, fun k hk => ?_, ?_, hr.keep, hr.low⟩
  · obtain ⟨s', hs', hl'⟩ := subL_look hL t s hl
    exact ⟨(hr.regs t s' hl').1, hg s s' _ hs' (hr.regs t s' hl').2⟩
  · have hsm := subM_mem hM k m hk
    unfold subMem at hsm
    split at hsm
    · rename_i j hj
      have hkj : names tb ρ k = ρ j := by simp [names, hj]
      split at hsm
      · rename_i T cs
        split at hsm
        · rename_i cs' hcs
          obtain ⟨b, vs, g1, g2, g3, g4, g5⟩ := hr.mem.rel j _ (mem_lookM hsm)
          obtain ⟨e1, e2⟩ := rens_get cs cs' hcs
          refine ⟨b, vs, hkj.trans g1, g2, by rw [g3, e1], g4, fun i s v hi hv => ?_⟩
          obtain ⟨s', hs', hren⟩ := e2 i s hi
          exact hg s s' v hren (g5 i s' v hs' hv)
        · exact hsm.elim
      · rename_i T sz xs
        obtain ⟨xs', hlk, e1, e2⟩ := hsm
        obtain ⟨v, cells, g1, g2, g3, g4, g5, g6⟩ := hr.mem.rel j _ (mem_lookM hlk)
        refine ⟨v, cells, hkj.trans g1, by rw [← e1]; exact g2, by rw [← e1]; exact g3, g4, fun x hx => ?_, fun i j x s hx hs => ?_⟩
        · obtain ⟨i, hi⟩ := List.mem_iff_getElem?.1 hx
          obtain ⟨x', hx', hr'⟩ := e2 i x hi
          rw [← (rens_get x x' hr').1]
          exact g5 x' (List.mem_of_getElem? hx')
        · obtain ⟨x', hx', hr'⟩ := e2 i x hx
          obtain ⟨s', hs', hren⟩ := (rens_get x x' hr').2 j s hs
          obtain ⟨u, hu, hd⟩ := g6 i j x' s' hx' hs'
          exact ⟨u, hu, hg s s' u hren hd⟩
      · rename_i hnb hnb2
        have hmr := hr.mem.rel j _ (mem_lookM hsm)
        cases m with
        | box T cs => exact (hnb T cs rfl).elim
        | garr T sz xs => exact (hnb2 T sz xs rfl).elim
        | map es =>
          obtain ⟨r, ents, clock, g1, g2, g3, g4⟩ := hmr
          refine ⟨r, ents, clock, hkj.trans g1, g2, g3, fun i n s hi => ?_⟩
          obtain ⟨e, e1, e2, e3⟩ := g4 i n s hi
          exact ⟨e, e1, e2, e3.less fun b hb => hb.imp id (hown b)⟩
        | arr T enc sz xs =>
          obtain ⟨v, cells, g1, g2, g3, g4, g5, g6⟩ := hmr
          refine ⟨v, cells, hkj.trans g1, g2, g3, g4, g5, fun i j x s hx hs => ?_⟩
          obtain ⟨u, hu, hd⟩ := g6 i j x s hx hs
          exact ⟨u, hu, hd.less fun b hb => hb.imp id (hown b)⟩
    · rename_i hj
      split at hsm
      · rename_i T α enc sz xs
        have h0 := Nat.eq_of_beq_eq_true hsm
        have hx : xs = [] := List.eq_nil_of_length_eq_zero h0
        subst hx
        exact ⟨.slice none 0 0, [], by simp [names, hj], World.ownsRow_nil w 0 T sz, by simp, fun u hu => (by cases hu), fun x hx => (by cases hx), fun i j x s hx => (by simp at hx)⟩
      · exact hsm.elim
    · exact hsm.elim
  · rcases hnm k v hv with ⟨j, hj, hρ⟩ | ⟨_, rfl⟩
    · rcases hnm k' v' hv' with ⟨j', hj', hρ'⟩ | ⟨_, rfl⟩
      · obtain ⟨m0, hm0⟩ := hlook k j m hk hj
        obtain ⟨m0', hm0'⟩ := hlook k' j' m' hk' hj'
        refine hr.mem.apart j m0 j' m0' v v' b hm0 hm0' (fun e => hne ?_) hρ hρ' hb
        subst e
        exact nmOf_inj h1 hj hj'
      · simp [blkOf]
    · cases hb
  · have : nmOf tb k = none := by
      cases hq : nmOf tb k with
      | none => rfl
      | some x => have := nmOf_lt h1 hq; have hk : nk' ≤ k := hk; omega
    simp [names, this]
  · have hs := hr.stp
    refine ⟨hs.os, hs.tape, hs.output, hs.size, hs.block, fun b hb => hs.own b (hown b hb), fun k v hk => ?_⟩
    have := lowOK_nm h2 k (hr.low k v hk)
    simp [names, this, hs.rho k v hk]

theorem sub_put {σ : St} {t : Nat} {s s' : SV} (hl : look σ.L t = some s) (h : ∀ S Pm ρ w v, G S Pm ρ w s v → G S Pm ρ w s' v) : Sub σ (σ.put (some t) s') := fun _ ρ _ _ hr => ⟨ρ, hr.refine hl h⟩
theorem Sub.trans {σ σ' σ'' : St} (h : Sub σ σ') (k : Sub σ' σ'') : Sub σ σ'' := fun E ρ a w hr => by
  obtain ⟨ρ', h1⟩ := h E ρ a w hr
  exact k E ρ' a w h1
/-- A row of one's own is read from now on; the places of another row that held it hold what it holds. -/
theorem sub_frz {σ : St} (k k0 : Nat) {T T0 : TypeId} {α : Type} {enc : α → List SV} {sz sz0 : Nat} {ys : List α} {xs xs' : List (List SV)} (hk : lookM σ.M k = some (.arr T enc sz ys))
    (h0 : lookM σ.M k0 = some (.garr T0 sz0 xs)) (hl : xs'.length = xs.length) (hz : ∀ x ∈ xs', x.length = sz0)
    (hx : ∀ (i j : Nat) x' s', xs'[i]? = some x' → x'[j]? = some s' → ∃ x s, xs[i]? = some x ∧ x[j]? = some s ∧ (s' = s ∨ (s = .own k ∧ s' = .sl enc ys))) :
    Sub σ ⟨σ.L, setM (dropM σ.M k) k0 (.garr T0 sz0 xs'), σ.nk, σ.nt, σ.n0⟩ := by
  intro E ρ a w hr
  refine ⟨ρ, ?_⟩
  have hmem := mem_lookM hk
  have hsub : ∀ x ∈ dropM σ.M k, x ∈ σ.M := fun x hx => mem_dropM x hx
  have hpd := pairwise_dropM (k := k) hr.mem.keys
  have hkeys : (setM (dropM σ.M k) k0 (.garr T0 sz0 xs')).map (·.1) = (dropM σ.M k).map (·.1) := keys_setM
  have hown : ∀ b, Own (setM (dropM σ.M k) k0 (.garr T0 sz0 xs')) ρ b → Own (dropM σ.M k) ρ b := fun b hb => own_keys hkeys.symm hb
  have hown2 : ∀ b, Own (dropM σ.M k) ρ b → Own σ.M ρ b := fun b ⟨k', m, v, h1, h2, h3⟩ => ⟨k', m, v, hsub _ h1, h2, h3⟩
  have hg : ∀ s v, G (fun b => E.Keep b ∨ Own σ.M ρ b) (Own σ.M ρ) ρ w s v →
      G (fun b => E.Keep b ∨ Own (setM (dropM σ.M k) k0 (.garr T0 sz0 xs')) ρ b) (Own (setM (dropM σ.M k) k0 (.garr T0 sz0 xs')) ρ) ρ w s v := fun s v h =>
    h.mono (Nat.le_refl _) (fun b _ hb => ⟨fun h => hb (h.imp id fun h => hown2 b (hown b h)), rfl⟩) (fun b _ hb => ⟨fun h => hb (hown2 b (hown b h)), rfl⟩) (fun _ _ h => h)
  have hs : Stp (Own σ.M ρ) (Own (setM (dropM σ.M k) k0 (.garr T0 sz0 xs')) ρ) ρ ρ w w :=
    ⟨rfl, rfl, .refl _, Nat.le_refl _, fun _ _ _ => rfl, fun b hb => .inl (hown2 b (hown b hb)), fun _ _ h => h⟩
  have hd : ∀ v, ρ k = some v → D (fun b => E.Keep b ∨ Own (setM (dropM σ.M k) k0 (.garr T0 sz0 xs')) ρ b) w (.sl enc ys) v := fun v hv =>
    own_d hr.mem hmem (fun b hb => hb.imp id fun h => hown2 b (hown b h)) (fun v' b hv' hb hSb => by
      rcases hSb with hSb | hSb
      · exact (hr.mem.old b ⟨k, _, v', hmem, hv', hb⟩).2 hSb
      · obtain ⟨k', m', v1, h4, h5, h6⟩ := hown b hSb
        exact hr.mem.apart k _ k' m' v' v1 b hmem (hsub _ h4) (Ne.symm (dropM_ne hr.mem.keys _ h4)) hv' h5 hb h6) hv
  refine ⟨hr.size, hr.defers, fun t s hl => ⟨(hr.regs t s hl).1, hg s _ (hr.regs t s hl).2⟩, ⟨fun k1 m1 h1 => ?_, pairwise_keys hkeys hpd, fun k1 m1 k2 m2 v1 v2 b h1 h2 => ?_, fun b hb => hr.mem.old b (hown2 b (hown b hb)), hr.mem.kp⟩,
    hr.fresh, hr.stp.trans hs, hr.keep, hr.low⟩
  · rcases mem_setM hpd _ h1 with ⟨_, h2⟩ | h2
    · exact (hr.mem.rel k1 m1 (hsub _ h2)).keep hs rfl (fun _ _ _ _ => rfl)
    · cases h2
      obtain ⟨v, cells, g1, g2, g3, g4, g5, g6⟩ := hr.mem.rel k0 _ (mem_lookM h0)
      refine ⟨v, cells, g1, by rw [hl]; exact g2, by rw [hl]; exact g3, g4, hz, fun i j x' s' hx' hs' => ?_⟩
      obtain ⟨x, s, e1, e2, e3⟩ := hx i j x' s' hx' hs'
      obtain ⟨u, hu, hgu⟩ := g6 i j x s e1 e2
      refine ⟨u, hu, ?_⟩
      rcases e3 with rfl | ⟨rfl, rfl⟩
      · exact hg _ _ hgu
      · exact .d _ _ (hd u hgu.own_inv.1)
  · have back : ∀ k1 m1, (k1, m1) ∈ setM (dropM σ.M k) k0 (.garr T0 sz0 xs') → ∃ m', (k1, m') ∈ σ.M := fun k1 m1 h => by
      rcases mem_setM hpd _ h with ⟨_, h2⟩ | h2
      · exact ⟨m1, hsub _ h2⟩
      · cases h2; exact ⟨_, mem_lookM h0⟩
    obtain ⟨m1', h1'⟩ := back _ _ h1
    obtain ⟨m2', h2'⟩ := back _ _ h2
    exact hr.mem.apart k1 m1' k2 m2' v1 v2 b h1' h2'

/-- A row of data is plain data. -/
theorem sub_flat {σ : St} (k0 : Nat) {T0 : TypeId} {α : Type} (enc : α → List SV) {sz0 : Nat} (ys : List α) (h0 : lookM σ.M k0 = some (.garr T0 sz0 (ys.map enc))) (hf : ∀ x ∈ ys, flat.flats (enc x) = true) :
    Sub σ ⟨σ.L, setM σ.M k0 (.arr T0 enc sz0 ys), σ.nk, σ.nt, σ.n0⟩ := by
  intro E ρ a w hr
  refine ⟨ρ, ?_⟩
  have hkeys : (setM σ.M k0 (.arr T0 enc sz0 ys)).map (·.1) = σ.M.map (·.1) := keys_setM
  have hown : ∀ b, Own (setM σ.M k0 (.arr T0 enc sz0 ys)) ρ b → Own σ.M ρ b := fun b hb => own_keys hkeys.symm hb
  have hg : ∀ s v, G (fun b => E.Keep b ∨ Own σ.M ρ b) (Own σ.M ρ) ρ w s v →
      G (fun b => E.Keep b ∨ Own (setM σ.M k0 (.arr T0 enc sz0 ys)) ρ b) (Own (setM σ.M k0 (.arr T0 enc sz0 ys)) ρ) ρ w s v := fun s v h =>
    h.mono (Nat.le_refl _) (fun b _ hb => ⟨fun h => hb (h.imp id (hown b)), rfl⟩) (fun b _ hb => ⟨fun h => hb (hown b h), rfl⟩) (fun _ _ h => h)
  have hs : Stp (Own σ.M ρ) (Own (setM σ.M k0 (.arr T0 enc sz0 ys)) ρ) ρ ρ w w :=
    ⟨rfl, rfl, .refl _, Nat.le_refl _, fun _ _ _ => rfl, fun b hb => .inl (hown b hb), fun _ _ h => h⟩
  have back : ∀ k1 m1, (k1, m1) ∈ setM σ.M k0 (.arr T0 enc sz0 ys) → ∃ m', (k1, m') ∈ σ.M := fun k1 m1 h => by
    rcases mem_setM hr.mem.keys _ h with ⟨_, h2⟩ | h2
    · exact ⟨m1, h2⟩
    · cases h2; exact ⟨_, mem_lookM h0⟩
  refine ⟨hr.size, hr.defers, fun t s hl => ⟨(hr.regs t s hl).1, hg s _ (hr.regs t s hl).2⟩, ⟨fun k1 m1 h1 => ?_, pairwise_keys hkeys hr.mem.keys, fun k1 m1 k2 m2 v1 v2 b h1 h2 => ?_, fun b hb => hr.mem.old b (hown b hb), hr.mem.kp⟩,
    hr.fresh, hr.stp.trans hs, hr.keep, hr.low⟩
  · rcases mem_setM hr.mem.keys _ h1 with ⟨_, h2⟩ | h2
    · exact (hr.mem.rel k1 m1 h2).keep hs rfl (fun _ _ _ _ => rfl)
    · cases h2
      obtain ⟨v, cells, g1, g2, g3, g4, g5, g6⟩ := hr.mem.rel k0 _ (mem_lookM h0)
      rw [List.length_map] at g2 g3
      refine ⟨v, cells, g1, g2, g3, g4, fun x hx => g5 _ (List.mem_map.2 ⟨x, hx, rfl⟩), fun i j x s hx hs' => ?_⟩
      obtain ⟨u, hu, hgu⟩ := g6 i j (enc x) s (by rw [List.getElem?_map, hx]; rfl) hs'
      exact ⟨u, hu, flat_d (flats_mem (hf x (List.mem_of_getElem? hx)) j s hs') (hg _ _ hgu)⟩
  · obtain ⟨m1', h1'⟩ := back _ _ h1
    obtain ⟨m2', h2'⟩ := back _ _ h2
    exact hr.mem.apart k1 m1' k2 m2' v1 v2 b h1' h2'

end Go.Gs
/- A function whose own blocks are data from its end on: what it hands back may point at them. -/
namespace Go.Gs

/-- A value with what is one's own seen as data; 'prev': the cells of a box. -/
def frzS (prev : SV → SV) (lm : Nat → Option Mem) : SV → SV
  | .loc k off => (match lm k with
    | some (.box _ cs) => .dptr ((cs.map prev).drop off)
    | _ => .junk)
  | .own k => (match lm k with
    | some (.arr _ enc _ xs) => .sl enc xs
    | _ => .junk)
  | .fn f cs => .dfn f (frzs prev lm cs)
  | .agg cs => .agg (frzs prev lm cs)
  | .ifc t s => .ifc t (frzS prev lm s)
  | .val v => .val v
  | .pr p i => .pr p i
  | .sl enc xs => .sl enc xs
  | .dptr cs => .dptr cs
  | .dfn f cs => .dfn f cs
  | .nils => .nils
  | .anyb => .anyb
  | .full enc xs => .full enc xs
  | _ => .junk
  where
  frzs (prev : SV → SV) (lm : Nat → Option Mem) : List SV → List SV
    | [] => []
    | c :: cs => frzS prev lm c :: frzs prev lm cs
def frz (lm : Nat → Option Mem) : Nat → SV → SV
  | 0 => frzS (fun _ => .junk) lm
  | n + 1 => frzS (frz lm n) lm
def frzR (lm : Nat → Option Mem) (n : Nat) (s : SV) : SV :=
  match s with
  | .tup cs => .tup (cs.map (frz lm n))
  | s => frz lm n s

theorem frzs_map (prev : SV → SV) (lm : Nat → Option Mem) : ∀ cs, frzS.frzs prev lm cs = cs.map (frzS prev lm)
  | [] => rfl
  | c :: cs => by rw [frzS.frzs, frzs_map prev lm cs]; rfl

section
variable {Keep : Nat → Prop} {M : List (Nat × Mem)} {ρ : Names} {w : World} {lm : Nat → Option Mem}
theorem D.dat {S S' : Nat → Prop} (hS : ∀ b, S' b → S b) {s : SV} {v : Value} (h : D S w s v) : D S' w s v := h.less hS

theorem frzS_d (hlm : ∀ k m, lm k = some m → (k, m) ∈ M) (hm : MemOK Keep M ρ w) {prev : SV → SV}
    (hp : ∀ {s : SV} {v : Value}, G (fun b => Keep b ∨ Own M ρ b) (Own M ρ) ρ w s v → D Keep w (prev s) v) :
    ∀ (s : SV) {v : Value}, G (fun b => Keep b ∨ Own M ρ b) (Own M ρ) ρ w s v → D Keep w (frzS prev lm s) v := by
  have hsub : ∀ b, Keep b → Keep b ∨ Own M ρ b := fun b h => .inl h
  intro s
  induction s using SV.rec (motive_2 := fun cs => ∀ {vs : List Value}, Gs (fun b => Keep b ∨ Own M ρ b) (Own M ρ) ρ w cs vs → ∀ (j : Nat) (s : SV) (v : Value), (frzS.frzs prev lm cs)[j]? = some s → vs[j]? = some v → D Keep w s v) with
  | val v => intro u hg; rw [hg.val_inv]; exact .val v
  | pr p i => intro u hg; rw [hg.pr_inv]; exact .pr p i
  | sl enc xs => intro u hg; exact hg.sl_inv.less hsub
  | nils => intro u hg; obtain ⟨a, rfl⟩ := hg.nils_inv; exact .nils a
  | anyb => intro u hg; obtain ⟨b, rfl⟩ := hg.anyb_inv; exact .anyb b
  | full enc xs => intro u hg; obtain ⟨a, rfl, hd⟩ := hg.full_inv; exact .full enc xs a (hd.less hsub)
  | dptr cs _ => intro u hg; cases hg with | d _ _ h => exact h.less hsub
  | dfn f cs _ => intro u hg; cases hg with | d _ _ h => exact h.less hsub
  | ifc t s ih =>
    intro u hg
    obtain ⟨v, rfl, hv⟩ := hg.ifc_inv
    exact .ifc t _ v (ih hv)
  | agg cs ih =>
    intro u hg
    obtain ⟨vs, rfl, hvs⟩ := hg.agg_inv
    exact .agg _ vs (by rw [frzs_map, List.length_map]; exact hvs.1) (ih hvs)
  | fn f cs ih =>
    intro u hg
    obtain ⟨vs, rfl, hvs⟩ := hg.fn_inv
    exact .dfn f _ vs (by rw [frzs_map, List.length_map]; exact hvs.1) (ih hvs)
  | loc k off =>
    intro u hg
    obtain ⟨b, hρ, rfl⟩ := hg.loc_inv
    simp only [frzS]
    split
    · rename_i T cs hk
      have hmem := hlm k _ hk
      obtain ⟨b', vs, h1, h2, h3, h4, h5⟩ := hm.rel k _ hmem
      rw [hρ] at h1; cases h1
      have hb := hm.old b ⟨k, _, _, hmem, hρ, rfl⟩
      refine .dptr _ b off (fun j => (vs[off + j]?).getD undef) hb.1 hb.2 (fun j hj => ?_) (fun j s hs => ?_)
      · have hj' : off + j < vs.length := by simp at hj; omega
        rw [cell_row h2]
        simp only [List.getElem?_eq_getElem hj', Option.getD_some]
        exact ⟨trivial, h4 _ (List.getElem_mem hj')⟩
      · rw [List.getElem?_drop, List.getElem?_map] at hs
        cases hc : cs[off + j]? with
        | none => simp [hc] at hs
        | some c =>
          simp [hc] at hs
          subst hs
          have hj' : off + j < vs.length := by have := (List.getElem?_eq_some_iff.1 hc).1; omega
          rw [List.getElem?_eq_getElem hj', Option.getD_some]
          exact hp (h5 _ c _ hc (List.getElem?_eq_getElem hj'))
    · exact .junk _
  | own k =>
    intro u hg
    obtain ⟨hρ, h1⟩ := hg.own_inv
    simp only [frzS]
    split
    · rename_i T α enc sz xs hk
      have hmem := hlm k _ hk
      exact own_d hm hmem (fun b hb => .inl hb) (fun v b hv hb hk => (hm.old b ⟨k, _, v, hmem, hv, hb⟩).2 hk) hρ
    · exact .junk _
  | ptr cs _ => intro u _; exact .junk _
  | eloc _ _ _ _ => intro u _; exact .junk _
  | win _ _ _ _ => intro u _; exact .junk _
  | tup cs _ => intro u _; exact .junk _
  | junk => intro u _; exact .junk _
  | nil => rename_i vs _ j s v h _; simp [frzS.frzs] at h
  | cons c cs ihc ihcs =>
    rename_i vs hg j s v h hv
    obtain ⟨v0, vs', rfl, h1, h2⟩ := hg.cons_inv
    cases j with
    | zero => simp [frzS.frzs] at h hv; subst h; subst hv; exact ihc h1
    | succ j => exact ihcs h2 j s v (by simpa [frzS.frzs] using h) (by simpa using hv)

theorem frz_d (hlm : ∀ k m, lm k = some m → (k, m) ∈ M) (hm : MemOK Keep M ρ w) : ∀ (n : Nat) {s : SV} {v : Value}, G (fun b => Keep b ∨ Own M ρ b) (Own M ρ) ρ w s v → D Keep w (frz lm n s) v
  | 0, s, _, h => frzS_d hlm hm (fun _ => .junk _) s h
  | n + 1, s, _, h => frzS_d hlm hm (fun h => frz_d hlm hm n h) s h
end

/-- At a function's end: it returns 'r', and its blocks are data from now on. -/
def endF (n : Nat) (Γ : List (TypeId × TI)) (rs : List ResultVar) (r : SV) (e : Ex) (σ : St) : Prop :=
  match e with
  | .exit _ => False
  | _ => resV σ Γ rs fun s => LE (frzR (lookM σ.M) n s) r

theorem calls_data (n : Nat) {P : Program} {Γ : List (TypeId × TI)} (hT : TOK P Γ) (hm : P.follows .mixedOrders = true) {f : FuncId} {fn : Func} {c : Code} {args : List SV} {r : SV}
    (hf : P.funcs[f]? = some fn) (hb : fn.body = some c) (hn : (fn.name == "runtime.NumGoroutine") = false) (hle : Nat.ble args.length fn.ntmps = true)
    (h : vcCode P Γ c ⟨paramL 0 args, [], 0, fn.ntmps, 0⟩ (endF n Γ fn.results.toList r)) : CallsG P f args [] r [] := by
  refine calls_end hT hm hf hb hn hle h (fun e σ h => ⟨σ, .refl, h⟩) (fun e σ hq he => ?_) (fun id σ hq => hq)
  have hq : resV σ Γ fn.results.toList fun s => LE (frzR (lookM σ.M) n s) r := by
    cases e with
    | exit id => exact absurd rfl (he id)
    | normal => exact hq
    | ret => exact hq
  obtain ⟨s, hle, h1⟩ := resV_elim hT hq
  refine ⟨s, h1, fun {E ρ a w v} hr hW _ hg => ⟨ρ, ?_, ?_, ?_⟩⟩
  · have hs := hr.stp
    exact ⟨hs.os, hs.tape, hs.output, hs.size, fun b hb hn => hs.block b hb fun h => hn ((hW b).1 h), fun b hb => absurd hb own_nil, hs.rho⟩
  · exact memOK_nil hr.mem.kp
  · have hd : ∀ {s : SV} {v : Value}, G (fun b => E.Keep b ∨ Own σ.M ρ b) (Own σ.M ρ) ρ w s v → D (fun b => E.Keep b ∨ Own [] ρ b) w (frz (lookM σ.M) n s) v := fun h =>
      (frz_d (fun k m h => mem_lookM h) hr.mem n h).less fun b hb => hb.resolve_right own_nil
    refine hle _ _ _ _ _ ?_
    unfold frzR
    split
    · rename_i cs
      obtain ⟨vs, rfl, hvs⟩ := hg.tup_inv
      refine .tup _ vs (by rw [List.length_map]; exact hvs.1) fun j s v hs hv => ?_
      rw [List.getElem?_map] at hs
      cases hc : cs[j]? with
      | none => simp [hc] at hs
      | some c =>
        simp [hc] at hs
        subst hs
        exact .d _ _ (hd (hvs.2 j c v hc hv))
    · exact .d _ _ (hd hg)

end Go.Gs
/- A function that puts one call off: the call is made when it ends. -/
namespace Go.Gs

def keepLoc (p : Nat × SV) : Nat × SV :=
  match p.2 with
  | .loc k o => (p.1, .loc k o)
  | _ => (p.1, .junk)

theorem look_keepLoc : ∀ (L : List (Nat × SV)) (t : Nat) (s : SV), look (L.map keepLoc) t = some s → s = .junk ∨ ∃ k o, s = .loc k o ∧ look L t = some (.loc k o)
  | [], t, s, h => by simp [look] at h
  | (d, s0) :: L, t, s, h => by
    have e : (((d, s0) :: L).map keepLoc) = (d, (keepLoc (d, s0)).2) :: L.map keepLoc := by
      simp only [List.map_cons]; congr 1; unfold keepLoc; dsimp only; split <;> rfl
    rw [e, look_cons] at h
    split at h
    · rename_i hd
      cases h
      unfold keepLoc; dsimp only
      split
      · rename_i k o
        exact .inr ⟨k, o, rfl, by rw [look_cons, if_pos hd]⟩
      · exact .inl rfl
    · rename_i hd
      rcases look_keepLoc L t s h with h | ⟨k, o, h1, h2⟩
      · exact .inl h
      · exact .inr ⟨k, o, h1, by rw [look_cons, if_neg hd, h2]⟩

def isLoc : SV → Bool
  | .loc _ _ => true
  | _ => false

def onEnd (K : St → Prop) : Ex → St → Prop
  | .exit _, _ => False
  | .normal, σ => K σ
  | .ret, σ => K σ
def onGo (K : St → Prop) : Ex → St → Prop
  | .normal, σ => K σ
  | _, _ => False

/-- What is left when the body has ended: the call that was put off, then the results. -/
def dfrEnd (P : Program) (Γ : List (TypeId × TI)) (fn cfn : Func) (cc : Code) (caps : List SV) (r : SV) (σ3 : St) : Prop :=
  Nat.beq σ3.M.length σ3.nk = true ∧ vcCode P Γ cc ⟨paramL 0 caps, σ3.M, σ3.M.length, cfn.ntmps, σ3.M.length⟩ (onEnd fun σ4 => resV σ4 Γ cfn.results.toList fun _ =>
    resV ⟨σ3.L.map keepLoc, σ4.M, σ4.nk, σ3.nt, 0⟩ Γ fn.results.toList fun s => LE (viewR (lookM σ4.M) s) r)
def dfrGo (P : Program) (Γ : List (TypeId × TI)) (fn cfn : Func) (cf : FuncId) (t : Tmp) (rest cc : Code) (r : SV) (σ2 : St) : Prop :=
  ∃ caps, look σ2.L t = some (.fn cf caps) ∧ Nat.ble caps.length cfn.ntmps = true ∧ caps.all isLoc = true ∧ vcCode P Γ rest ⟨σ2.L, σ2.M, σ2.nk, σ2.nt, σ2.nk⟩ (onEnd (dfrEnd P Γ fn cfn cc caps r))

theorem calls_deferred {P : Program} {Γ : List (TypeId × TI)} (hT : TOK P Γ) (hm : P.follows .mixedOrders = true) {f cf : FuncId} {fn cfn : Func} {p0 p1 rest cc : Code} {id : Nat} {o1 o2 : Oper} {t : Tmp}
    {args : List SV} {r : SV} (hf : P.funcs[f]? = some fn) (hb : fn.body = some (.seq p0 (.seq p1 (.seq (.region id #[o1, o2] false) rest)))) (hn : (fn.name == "runtime.NumGoroutine") = false)
    (hle : Nat.ble args.length fn.ntmps = true) (ho : o2.op = .defer ⟨.value (.tmp t), #[], #[]⟩) (hg : o2.guard = none) (hd : o2.dst = none)
    (hcf : P.funcs[cf]? = some cfn) (hcb : cfn.body = some cc) (hcn : (cfn.name == "runtime.NumGoroutine") = false)
    (h : vcCode P Γ p0 ⟨paramL 0 args, [], 0, fn.ntmps, 0⟩ (onGo fun σ0 => vcCode P Γ p1 σ0 (onGo fun σ1 => vcOps P Γ false [o1, o2] [o1] 0 σ1 (dfrGo P Γ fn cfn cf t rest cc r)))) :
    CallsG P f args [] r [] := by
  refine ⟨⟨fn, hf, hn, by rw [hb]; rfl⟩, fun Keep ρ w vs hk hmem hρ hgs => ?_⟩
  have hRF : ∃ RF : Ending → World → Prop, ∀ e w', RF e w' ↔ ∃ v ρ', e = .returned v ∧ Stp (Own [] ρ) (Own [] ρ') ρ ρ' w w' ∧ MemOK Keep [] ρ' w' ∧ G (fun b => Keep b ∨ Own [] ρ' b) (Own [] ρ') ρ' w' r v := ⟨_, fun _ _ => Iff.rfl⟩
  obtain ⟨RF, hRF⟩ := hRF
  refine Calls.mono ?_ fun e w' h => (hRF e w').1 h
  refine calls_of_wp_defers hf hb ?_
  have hrel := enter_rel (nt := fn.ntmps) hmem hρ hgs (Nat.le_of_ble_eq_true hle)
  -- the first two pieces
  refine wp_seq (Code.wp_mono (fun e a0 w0 hq => ?_) (code_sound hT hm p0 hrel h))
  have gone : ∀ {K : St → Prop} {e : Exit} {a : Act} {w1 : World} {X : Prop}, PostOf ⟨w, ρ, Keep, Own [] ρ, []⟩ (onGo K) e a w1 → (∀ σ ρ', e = .normal → K σ → Rel ⟨w, ρ, Keep, Own [] ρ, []⟩ σ ρ' a w1 → X) → X := by
    intro K e a w1 X hq hX
    cases e with
    | normal => obtain ⟨σ, ρ', h1, h2⟩ := hq; exact hX σ ρ' rfl h1 h2
    | exit id => obtain ⟨σ, ρ', h1, _⟩ := hq; exact h1.elim
    | ret => obtain ⟨σ, ρ', h1, _⟩ := hq; exact h1.elim
    | _ => exact hq.elim
  refine gone hq fun σ0 ρ0 he h0 hr0 => ?_
  subst he
  refine wp_seq (Code.wp_mono (fun e a1 w1 hq => ?_) (code_sound hT hm p1 hr0 h0))
  refine gone hq fun σ1 ρ1 he h1 hr1 => ?_
  subst he
  -- the piece that puts the call off
  refine wp_seq (wp_region_list ?_)
  obtain ⟨σ', run, svs, s, md, h2, hgd, href, hdst, hrun⟩ := ops_step hT hr1 h1
  have hr1' : Rel ⟨w, ρ, Keep, Own [] ρ, []⟩ σ' ρ1 a1 w1 := by
    rcases href with rfl | ⟨t, s0, s1, q2, q3, rfl⟩
    · exact hr1
    · exact hr1.refine q2 q3
  have hnt : σ'.nt = σ1.nt := by rcases href with rfl | ⟨t, s0, s1, q2, q3, rfl⟩ <;> rfl
  have go2 : ∀ {ρ2 : Names} {a2 : Act} {w2 : World} {Q : Exit → Act → World → Prop}, (∀ a w, rest.wp P (bodyPostD P fn RF) a w → Q .normal a w) → Rel ⟨w, ρ, Keep, Own [] ρ, []⟩ (σ'.app o1.dst s md) ρ2 a2 w2 →
      wpList P #[o1, o2] Q [o2] a2 w2 := by
    intro ρ2 a2 w2 Q hQ hr2
    obtain ⟨caps, hlt, hcle, hall, h3⟩ := h2
    have hgt := (hr2.regs t _ hlt).2
    obtain ⟨cvs, hcv, hcg⟩ := hgt.fn_inv
    have hw : Region.wanted o2 (yielded (#[o1, o2] : Array Oper) a2.tmps) = true := hr2.wanted (all := [o1, o2]) (by simp [GuardIs, hg])
    unfold wpList
    rw [hw]
    simp only [if_true]
    refine .inl ?_
    unfold Oper.wp
    have hex : (execOp a2.eval o2).run P w2 = .ok (.defer ⟨.fn (.func cf) cvs.toArray, #[]⟩) w2 := by
      have hev : a2.eval (.tmp t) = .func (.func cf) #[] cvs.toArray := hcv
      simp only [execOp, ho, resolve, hev, Deferred.ofValue, Sem.run_bind, Sem.run_pure, Result.andThen_ok]
      simp
    rw [hex, Oper.upon_defer, hd]
    refine hQ _ _ ?_
    show rest.wp P _ { a2 with defers := _ :: a2.defers } w2
    have hd0 : a2.defers = [] := hr2.defers
    rw [hd0]
    -- the rest, with the call put off
    let E3 : Env := ⟨w2, ρ2, Keep, Own (σ'.app o1.dst s md).M ρ2, [⟨.fn (.func cf) cvs.toArray, #[]⟩]⟩
    have hr3 : Rel E3 ⟨(σ'.app o1.dst s md).L, (σ'.app o1.dst s md).M, (σ'.app o1.dst s md).nk, (σ'.app o1.dst s md).nt, (σ'.app o1.dst s md).nk⟩ ρ2 { a2 with defers := [⟨.fn (.func cf) cvs.toArray, #[]⟩] } w2 :=
      ⟨hr2.size, rfl, hr2.regs, hr2.mem, hr2.fresh, .refl, hr2.mem.kp, fun k v hv => by
        rcases Nat.lt_or_ge k (σ'.app o1.dst s md).nk with h | h
        · exact h
        · have hv : ρ2 k = some v := hv
          rw [hr2.fresh k h] at hv; cases hv⟩
    refine Code.wp_mono (fun e a3 w3 hq => ?_) (code_sound hT hm rest hr3 h3)
    have fin : ∀ σ3 ρ3, dfrEnd P Γ fn cfn cc caps r σ3 → Rel E3 σ3 ρ3 a3 w3 → Leaves P fn a3.tmps RF a3.defers .returning w3 := by
      intro σ3 ρ3 ⟨hbeq, h4⟩ hr3
      have hlen := Nat.eq_of_beq_eq_true hbeq
      have hd3 : a3.defers = [⟨.fn (.func cf) cvs.toArray, #[]⟩] := hr3.defers
      rw [hd3]
      have hρ3 : ∀ k, σ3.M.length ≤ k → ρ3 k = none := fun k hk => hr3.fresh k (by omega)
      have hcg3 : Gs (fun b => Keep b ∨ Own σ3.M ρ3 b) (Own σ3.M ρ3) ρ3 w3 caps cvs := by
        refine ⟨hcg.1, fun j s v hs hv => ?_⟩
        have hl : isLoc s = true := List.all_eq_true.1 hall s (List.mem_of_getElem? hs)
        cases s <;> try (simp [isLoc] at hl)
        rename_i k off
        obtain ⟨b, hb1, rfl⟩ := (hcg.2 j _ v hs hv).loc_inv
        exact .loc _ _ _ (hr3.stp.rho _ _ hb1)
      have hent := enter_rel (nt := cfn.ntmps) hr3.mem hρ3 hcg3 (Nat.le_of_ble_eq_true hcle)
      refine leaves_cons (by simp) (f := cf) (args := cvs.toArray) ?_ ?_
      · simp only [invoke, callFunc, Sem.run_bind, Sem.run_pure, Result.andThen_ok, run_program, hcf, hcn, hcb, Option.isNone_some, Bool.false_eq_true, if_false]
        simp
      · refine (callsD_of_wp (R := fun e w4 => ∃ v0, e = .returned v0 ∧ Leaves P fn a3.tmps RF [] .returning w4) hcf hcb ?_).mono ?_
        · refine Code.wp_mono (fun e a4 w4 hq => ?_) (code_sound hT hm cc hent h4)
          have fin2 : ∀ σ4 ρ4, (resV σ4 Γ cfn.results.toList fun _ => resV ⟨σ3.L.map keepLoc, σ4.M, σ4.nk, σ3.nt, 0⟩ Γ fn.results.toList fun s => LE (viewR (lookM σ4.M) s) r) →
              Rel ⟨w3, ρ3, Keep, Own σ3.M ρ3, []⟩ σ4 ρ4 a4 w4 → a4.defers = [] ∧ ∃ v, (results cfn a4.tmps).run P w4 = .ok v w4 ∧ ∃ v0, Ending.returned v = .returned v0 ∧
                Leaves P fn a3.tmps RF [] .returning w4 := by
            intro σ4 ρ4 h5 hr4
            obtain ⟨s0, h6, h7⟩ := resV_elim hT h5
            obtain ⟨v0, hv0, _⟩ := h7 hr4
            refine ⟨hr4.defers, v0, hv0, v0, rfl, ?_⟩
            have hst : Stp (Own [] ρ) (Own σ4.M ρ4) ρ ρ4 w w4 := (hr2.stp.trans hr3.stp).trans hr4.stp
            have hfin : Rel ⟨w, ρ, Keep, Own [] ρ, a3.defers⟩ ⟨σ3.L.map keepLoc, σ4.M, σ4.nk, σ3.nt, 0⟩ ρ4 a3 w4 := by
              refine ⟨hr3.size, rfl, fun t s hl => ?_, hr4.mem, hr4.fresh, hst, hk, fun k v hv => ?_⟩
              · rcases look_keepLoc σ3.L t s hl with rfl | ⟨k, o, rfl, h8⟩
                · refine ⟨?_, .d _ _ (.junk _)⟩
                  have : ∃ s, look σ3.L t = some s := by
                    clear h5 h6 h7 h4 hr3 hr4 hent
                    revert hl
                    generalize σ3.L = L
                    intro hl
                    induction L with
                    | nil => simp [look] at hl
                    | cons p L ih =>
                      obtain ⟨d, s0⟩ := p
                      by_cases hd : d = t
                      · exact ⟨s0, by rw [look_cons, if_pos hd]⟩
                      · rw [look_cons, if_neg hd]
                        refine ih ?_
                        have e : (((d, s0) :: L).map keepLoc) = (d, (keepLoc (d, s0)).2) :: L.map keepLoc := by
                          simp only [List.map_cons]; congr 1; unfold keepLoc; dsimp only; split <;> rfl
                        have hl' : look (((d, s0) :: L).map keepLoc) t = some .junk := hl
                        rw [e, look_cons, if_neg hd] at hl'
                        exact hl'
                  obtain ⟨s, hs⟩ := this
                  exact (hr3.regs t s hs).1
                · obtain ⟨h9, h10⟩ := hr3.regs t _ h8
                  refine ⟨h9, ?_⟩
                  obtain ⟨b, hb1, hb2⟩ := h10.loc_inv
                  rw [hb2]
                  exact .loc _ _ _ (hr4.stp.rho _ _ hb1)
              · have hv : ρ k = some v := hv
                rw [hρ k (Nat.zero_le _)] at hv; cases hv
            obtain ⟨s, hles, h8⟩ := resV_elim hT h6
            obtain ⟨v, hv, hgv⟩ := h8 hfin
            refine ⟨v, hv, (hRF _ _).2 ⟨v, ρ4, rfl, ?_, memOK_nil hfin.mem.kp, ?_⟩⟩
            · exact ⟨hst.os, hst.tape, hst.output, hst.size, fun b hb hn => hst.block b hb hn, fun b hb => absurd hb own_nil, hst.rho⟩
            · exact hles _ _ _ _ _ (viewR_g (fun k m h => mem_lookM h) hfin.mem (fun b hb => .inl (hb.resolve_right own_nil)) hgv (fun b hb hk => (hfin.mem.old b hb).2 (hk.resolve_right own_nil)) (fun _ => own_nil))
          cases e with
          | normal => obtain ⟨σ4, ρ4, h5, hr4⟩ := hq; exact fin2 σ4 ρ4 h5 hr4
          | ret => obtain ⟨σ4, ρ4, h5, hr4⟩ := hq; exact fin2 σ4 ρ4 h5 hr4
          | exit id => obtain ⟨σ4, ρ4, h5, _⟩ := hq; exact h5.elim
          | _ => exact hq.elim
        · rintro e u' w4 ⟨rfl, v0, rfl, hL⟩
          exact hL
    cases e with
    | normal => obtain ⟨σ3, ρ3, h4, hr3⟩ := hq; exact fin σ3 ρ3 h4 hr3
    | ret => obtain ⟨σ3, ρ3, h4, hr3⟩ := hq; exact fin σ3 ρ3 h4 hr3
    | exit id => obtain ⟨σ3, ρ3, h4, _⟩ := hq; exact h4.elim
    | _ => exact hq.elim
  unfold wpList
  rw [hr1'.wanted hgd]
  rcases hrun with ⟨rfl, hst⟩ | ⟨rfl, rfl, rfl⟩
  · simp only [if_true]
    refine .inl ((hst.does hr1').wp fun v w' ha => ?_)
    obtain ⟨ρ', hrel⟩ := hr1'.app (fun t e => hnt ▸ hdst t e) ha
    exact go2 (fun _ _ h => h) hrel
  · simp only [Bool.false_eq_true, if_false]
    obtain ⟨ρ', hrel⟩ := hr1'.app (fun t e => hnt ▸ hdst t e) (skip_after hr1'.mem)
    exact go2 (fun _ _ h => h) hrel

end Go.Gs
/- What one symbolic value says of another; integers. -/
namespace Go.Gs

abbrev i64 (n : Int) : SV := .val (.int .i64 n)
abbrev u8 (n : Int) : SV := .val (.int .u8 n)
abbrev bl (b : Bool) : SV := .val (.bool b)
abbrev pr (p : Prop) [i : Decidable p] : SV := .pr p i
abbrev R64 (n : Int) : Prop := -9223372036854775808 ≤ n ∧ n ≤ 9223372036854775807
abbrev R8 (n : Int) : Prop := 0 ≤ n ∧ n ≤ 255

theorem LE.refl {s : SV} : LE s s := fun _ _ _ _ _ h => h
theorem LE_of_eq {s r : SV} (h : s = r) : LE s r := h ▸ .refl
theorem LE_int {k : IntKind} {m n : Int} (h : m = n) : LE (.val (.int k m)) (.val (.int k n)) := by subst h; exact .refl
theorem LE_pr {p q : Prop} {i : Decidable p} {j : Decidable q} (h : p ↔ q) : LE (.pr p i) (.pr q j) := fun S Pm ρ w v hg => by
  rw [hg.pr_inv]
  have : @decide p i = @decide q j := by
    by_cases hp : p
    · simp [hp, h.1 hp]
    · have hq : ¬ q := fun hq => hp (h.2 hq)
      simp [hp, hq]
  rw [this]; exact .d _ _ (.pr q j)
theorem LE_true {q : Prop} {j : Decidable q} (h : q) : LE (.val (.bool true)) (.pr q j) := fun S Pm ρ w v hg => by
  rw [hg.val_inv]
  have := G.d (S := S) (Pm := Pm) (ρ := ρ) (w := w) _ _ (.pr q j)
  simpa [h] using this
theorem LE_false {q : Prop} {j : Decidable q} (h : ¬ q) : LE (.val (.bool false)) (.pr q j) := fun S Pm ρ w v hg => by
  rw [hg.val_inv]
  have := G.d (S := S) (Pm := Pm) (ρ := ρ) (w := w) _ _ (.pr q j)
  simpa [h] using this
theorem LE_yes {p : Prop} {i : Decidable p} (h : p) : LE (.pr p i) (.val (.bool true)) := fun S Pm ρ w v hg => by
  rw [hg.pr_inv]; simp only [h, decide_true]; exact .d _ _ (.val _)
theorem LE_no {p : Prop} {i : Decidable p} (h : ¬ p) : LE (.pr p i) (.val (.bool false)) := fun S Pm ρ w v hg => by
  rw [hg.pr_inv]; simp only [h, decide_false]; exact .d _ _ (.val _)
theorem LE_bl {p : Prop} {i : Decidable p} {b : Bool} (h : p ↔ b = true) : LE (.pr p i) (.val (.bool b)) := fun S Pm ρ w v hg => by
  rw [hg.pr_inv]
  have : @decide p i = b := by cases b <;> simp at h ⊢ <;> exact h
  rw [this]; exact .d _ _ (.val _)
theorem LE_blpr {b : Bool} {j : Decidable (b = true)} : LE (.val (.bool b)) (.pr (b = true) j) := fun S Pm ρ w v hg => by
  rw [hg.val_inv]
  have := G.d (S := S) (Pm := Pm) (ρ := ρ) (w := w) _ _ (.pr (b = true) j)
  cases b <;> simpa using this
theorem LE_sl {α : Type} {enc : α → List SV} {xs ys : List α} (h : xs = ys) : LE (.sl enc xs) (.sl enc ys) := by subst h; exact .refl

theorem LE_full {α : Type} {enc : α → List SV} {xs ys : List α} (h : xs = ys) : LE (.full enc xs) (.full enc ys) := by subst h; exact .refl
theorem LE_full_sl {α : Type} {enc : α → List SV} {xs ys : List α} (h : xs = ys) : LE (.full enc xs) (.sl enc ys) := fun S Pm ρ w v hg => by
  subst h
  obtain ⟨a, rfl, hd⟩ := hg.full_inv
  exact .d _ _ hd
theorem LE_nils {α : Type} {enc : α → List SV} : LE .nils (.sl enc []) := fun S Pm ρ w v hg => by
  obtain ⟨a, rfl⟩ := hg.nils_inv
  exact .d _ _ (.nil enc a)
theorem LE_nil0 {α : Type} {enc : α → List SV} : LE (.val (.slice none 0 0)) (.sl enc []) := fun S Pm ρ w v hg => by
  rw [hg.val_inv]; exact .d _ _ (.nil enc none)

theorem LEs.gs {as bs : List SV} (h : LEs as bs) {S Pm : Nat → Prop} {ρ : Names} {w : World} : ∀ {vs : List Value}, Gs S Pm ρ w as vs → Gs S Pm ρ w bs vs := by
  induction h with
  | nil => intro vs h; exact h
  | cons h t ih =>
    intro vs hg
    obtain ⟨v, vs', rfl, h1, h2⟩ := hg.cons_inv
    exact .cons (h _ _ _ _ _ h1) (ih h2)
theorem LE_agg {as bs : List SV} (h : LEs as bs) : LE (.agg as) (.agg bs) := fun S Pm ρ w v hg => by
  obtain ⟨vs, rfl, hvs⟩ := hg.agg_inv
  have := h.gs hvs
  exact .agg _ vs this.1 this.2
theorem LE_tup {as bs : List SV} (h : LEs as bs) : LE (.tup as) (.tup bs) := fun S Pm ρ w v hg => by
  obtain ⟨vs, rfl, hvs⟩ := hg.tup_inv
  have := h.gs hvs
  exact .tup _ vs this.1 this.2
theorem LE_tup2 {a b c d : SV} (h1 : LE a c) (h2 : LE b d) : LE (.tup [a, b]) (.tup [c, d]) := LE_tup (.cons h1 (.cons h2 .nil))
theorem LE.trans {a b c : SV} (h : LE a b) (k : LE b c) : LE a c := fun _ _ _ _ _ g => k _ _ _ _ _ (h _ _ _ _ _ g)

/-- A contract, said with less. -/
theorem CallsG.le {P : Program} {f : FuncId} {args : List SV} {M M' : List (Nat × Mem)} {r r' : SV} (h : CallsG P f args M r M') (hle : LE r r') : CallsG P f args M r' M' :=
  ⟨h.1, fun Keep ρ w vs hk hm hρ hg => (h.2 Keep ρ w vs hk hm hρ hg).mono fun _ _ ⟨v, ρ', e, h1, h2, h3⟩ => ⟨v, ρ', e, h1, h2, hle _ _ _ _ _ h3⟩⟩

/-- A contract asked for with less. -/
theorem CallsG.args {P : Program} {f : FuncId} {args args' : List SV} {M M' : List (Nat × Mem)} {r : SV} (h : CallsG P f args' M r M') (hle : LEs args args') : CallsG P f args M r M' :=
  ⟨h.1, fun Keep ρ w vs hk hm hρ hg => h.2 Keep ρ w vs hk hm hρ (hle.gs hg)⟩
theorem LEs.refl : ∀ {as : List SV}, LEs as as
  | [] => .nil
  | _ :: _ => .cons .refl .refl

inductive Takes (k : Option Nat) : List SV → List SV → Prop
  | nil : Takes k [] []
  | cons {a b : SV} {as bs : List SV} (h : Take k a b) (t : Takes k as bs) : Takes k (a :: as) (b :: bs)
theorem Takes.ix {k : Option Nat} {as bs : List SV} (h : Takes k as bs) : as.length = bs.length ∧ ∀ (j : Nat) (s r : SV), as[j]? = some s → bs[j]? = some r → Take k s r := by
  induction h with
  | nil => exact ⟨rfl, fun j s r h => by simp at h⟩
  | cons h t ih =>
    refine ⟨by simp [ih.1], fun j s r hs hr => ?_⟩
    cases j with
    | zero => simp at hs hr; subst hs; subst hr; exact h
    | succ j => exact ih.2 j s r (by simpa using hs) (by simpa using hr)
theorem take_agg {k : Option Nat} {as bs : List SV} (h : Takes k as bs) : Take k (.agg as) (.agg bs) := .agg _ _ h.ix.1 h.ix.2
theorem take_tup {k : Option Nat} {as bs : List SV} (h : Takes k as bs) : Take k (.tup as) (.tup bs) := .tup _ _ h.ix.1 h.ix.2
theorem take_fn {k : Option Nat} {f : FuncId} {as bs : List SV} (h : Takes k as bs) : Take k (.fn f as) (.fn f bs) := .fn _ _ _ h.ix.1 h.ix.2
theorem take_int {k : Option Nat} {q : IntKind} {m n : Int} (h : m = n) : Take k (.val (.int q m)) (.val (.int q n)) := .le _ _ (LE_int h) rfl

/-! ### Integers -/
theorem tdm {m n : Int} (h : 0 < n) : (0 ≤ m.tmod n ∧ m.tmod n < n ∧ m.tmod n = m % n ∧ m.tdiv n = m / n ∧ (m < 0 → m % n = 0)) ∨
    (m < 0 ∧ m.tmod n < 0 ∧ -n < m.tmod n ∧ m.tmod n + n = m % n ∧ m.tdiv n - 1 = m / n) := by
  have h1 := Int.mul_tdiv_add_tmod m n
  have h2 := Int.tmod_lt_of_pos m h
  have uniq : ∀ q r : Int, n * q + r = m → 0 ≤ r → r < n → r = m % n ∧ q = m / n := fun q r e hr hl => by
    have := (Int.ediv_emod_unique (a := m) (b := n) (q := q) (r := r) h).2 ⟨by omega, hr, hl⟩
    exact ⟨this.2.symm, this.1.symm⟩
  by_cases hm : 0 ≤ m
  · have h3 := Int.tmod_nonneg n hm
    obtain ⟨h4, h5⟩ := uniq _ _ h1 h3 h2
    exact .inl ⟨h3, h2, h4, h5, fun h => by omega⟩
  · have h3 : -n < m.tmod n := by
      have := Int.tmod_lt_of_pos (-m) h
      rw [Int.neg_tmod] at this; omega
    have h6 : m.tmod n ≤ 0 := by
      have := Int.tmod_nonneg n (show 0 ≤ -m by omega)
      rw [Int.neg_tmod] at this; omega
    by_cases h0 : m.tmod n = 0
    · obtain ⟨h4, h5⟩ := uniq _ _ h1 (by omega) h2
      exact .inl ⟨by omega, h2, h4, h5, fun _ => by omega⟩
    · obtain ⟨h4, h5⟩ := uniq (m.tdiv n - 1) (m.tmod n + n) (by rw [Int.mul_sub]; omega) (by omega) (by omega)
      exact .inr ⟨by omega, by omega, h3, h4, h5⟩

theorem tm2 (q : Int) : q.tmod 2 = 0 ↔ q % 2 = 0 := by
  rcases tdm (m := q) (n := 2) (by omega) with h | h <;> omega

/-- The quotient is no greater than the number. -/
theorem tdiv_range {m n : Int} (h : 0 < n) (hm : R64 m) : R64 (m.tdiv n) ∧ (n ≠ 1 → -4611686018427387904 ≤ m.tdiv n) := by
  have h1 := Int.mul_tdiv_add_tmod m n
  have h2 := Int.tmod_lt_of_pos m h
  have h3 : -n < m.tmod n := by
    rcases tdm (m := m) h with h3 | h3 <;> omega
  generalize m.tdiv n = q at *
  generalize m.tmod n = r at *
  refine ⟨⟨?_, ?_⟩, fun hn => ?_⟩
  · rcases Int.lt_or_le q 0 with hq | hq
    · have : n * q ≤ 1 * q := Int.mul_le_mul_of_nonpos_right (by omega) (by omega)
      by_cases e : n = 1
      · subst e; omega
      · have : n * q ≤ 2 * q := Int.mul_le_mul_of_nonpos_right (by omega) (by omega)
        have h5 : n * (q + 1) = n * q + n := by rw [Int.mul_add]; omega
        have h6 : n * (q + 1) ≤ 2 * (q + 1) := by
          rcases Int.lt_or_le (q + 1) 1 with h | h
          · exact Int.mul_le_mul_of_nonpos_right (by omega) (by omega)
          · omega
        omega
    · omega
  · rcases Int.lt_or_le 0 q with hq | hq
    · have h5 : n * (q - 1) = n * q - n := by rw [Int.mul_sub]; omega
      have h6 : 1 * (q - 1) ≤ n * (q - 1) := Int.mul_le_mul_of_nonneg_right (by omega) (by omega)
      omega
    · omega
  · rcases Int.lt_or_le q 0 with hq | hq
    · have h5 : n * (q + 1) = n * q + n := by rw [Int.mul_add]; omega
      have h6 : n * (q + 1) ≤ 2 * (q + 1) := Int.mul_le_mul_of_nonpos_right (by omega) (by omega)
      omega
    · omega

theorem and_one {q : Int} : bitsK .and .i64 q 1 = q % 2 := by
  have e : (BitVec.ofInt 64 q &&& BitVec.ofInt 64 1).toNat = (q % 2).toNat := by
    rw [BitVec.toNat_and]
    have h1 : (BitVec.ofInt 64 1).toNat = 1 := by decide
    rw [h1, Nat.and_one_is_mod, BitVec.toNat_ofInt]
    omega
  show IntKind.i64.wrap ((BitVec.ofInt 64 q &&& BitVec.ofInt 64 1).toNat : Nat) = _
  rw [e]
  have : IntKind.i64.wrap ((q % 2).toNat : Int) = ((q % 2).toNat : Int) := by
    rcases Int.emod_two_eq q with h | h <;> rw [h] <;> decide
  rw [this]; omega

end Go.Gs
