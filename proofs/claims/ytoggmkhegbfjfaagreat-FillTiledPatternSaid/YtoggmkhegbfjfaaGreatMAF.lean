/- Maps of one's own, whose keys are integers. -/
import Derived.Test.YtoggmkhegbfjfaaGreatMAE
import Derived.MapKept
import Derived.ChangeMaps4
namespace Go.Gs

theorem SameOut.block (w : World) {r : Nat} {ents : Array MapEntry} {clock : Nat} (h : w.heap[r]? = some (.map ents clock)) (es' : Array MapEntry) (c' : Nat) :
    SameOut w { w with heap := w.heap.setIfInBounds r (.map es' c') } := ⟨rfl, fun a => by
  unfold World.frozen?
  show (match (w.heap.setIfInBounds r (.map es' c'))[a.block]? with
    | some (.cells _ _ (lo, hi)) => decide (lo ≤ a.off) && decide (a.off < hi)
    | _ => false) = _
  by_cases e : r = a.block
  · subst e
    have hlt : a.block < w.heap.size := (Array.getElem?_eq_some_iff.1 h).1
    have h2 : (w.heap.setIfInBounds a.block (Obj.map es' c'))[a.block]? = some (.map es' c') := by
      rw [Array.getElem?_setIfInBounds]; simp [hlt]
    rw [h2, h]
  · rw [Array.getElem?_setIfInBounds, if_neg e]
    cases w.heap[a.block]? with
    | none => rfl
    | some o => cases o <;> rfl⟩
theorem SameOut.map (w : World) : SameOut w (w.alloc (.map #[] 0)) := ⟨rfl, fun a => by
  unfold World.frozen?
  by_cases e : a.block < w.heap.size
  · rw [heap_alloc_old w _ a.block e]
  · have h1 : w.heap[a.block]? = none := Array.getElem?_eq_none (by omega)
    by_cases e2 : a.block = w.heap.size
    · rw [e2, heap_alloc_new]; rw [e2] at h1; rw [h1]
    · have h2 : (w.alloc (.map #[] 0)).heap[a.block]? = none := Array.getElem?_eq_none (by simp; omega)
      rw [h1, h2]⟩

theorem MemOK.writeMap {Keep : Nat → Prop} {M : List (Nat × Mem)} {ρ : Names} {w : World} (hm : MemOK Keep M ρ w) {k : Nat} {m : Mem} (m' : Mem) (hk : (k, m) ∈ M) {r : Nat}
    (hv : ρ k = some (.map (some r))) {ents : Array MapEntry} {clock : Nat} (hh : w.heap[r]? = some (.map ents clock)) (es' : Array MapEntry) (c' : Nat)
    (hrel : Stp (Own M ρ) (Own (setM M k m') ρ) ρ ρ w { w with heap := w.heap.setIfInBounds r (.map es' c') } →
      MRel (fun b => Keep b ∨ Own (setM M k m') ρ b) (Own (setM M k m') ρ) ρ { w with heap := w.heap.setIfInBounds r (.map es' c') } k m') :
    Stp (Own M ρ) (Own (setM M k m') ρ) ρ ρ w { w with heap := w.heap.setIfInBounds r (.map es' c') } ∧ MemOK Keep (setM M k m') ρ { w with heap := w.heap.setIfInBounds r (.map es' c') } := by
  have hkeys : (setM M k m').map (·.1) = M.map (·.1) := keys_setM
  have hb : blkOf (.map (some r)) = some r := rfl
  have hother : ∀ b', b' ≠ r → (w.heap.setIfInBounds r (Obj.map es' c'))[b']? = w.heap[b']? := fun b' hne => by
    rw [Array.getElem?_setIfInBounds]; simp [Ne.symm hne]
  have hs : Stp (Own M ρ) (Own (setM M k m') ρ) ρ ρ w { w with heap := w.heap.setIfInBounds r (.map es' c') } :=
    ⟨rfl, rfl, .block w hh _ _, by simp, fun b' _ hn => hother b' (fun e => hn ⟨k, m, _, hk, hv, e ▸ hb⟩), fun b' hb' => .inl (own_keys hkeys.symm hb'), fun _ _ h => h⟩
  refine ⟨hs, MemOK.next k hm hs (pairwise_keys hkeys hm.keys) ?_ ?_ ?_⟩
  · intro k' m1 h1 hne
    rcases mem_setM hm.keys _ h1 with ⟨_, h2⟩ | h2
    · refine ⟨h2, rfl, fun v' b' hv' hb' => hother b' (fun e => ?_)⟩
      subst e
      exact hm.apart k' m1 k m v' _ b' h2 hk hne hv' hv hb' hb
    · cases h2; exact absurd rfl hne
  · intro m1 h1
    rcases mem_setM hm.keys _ h1 with ⟨h2, _⟩ | h2
    · exact absurd rfl h2
    · cases h2; exact hrel hs
  · intro m1 v' b' _ hv' hb'
    rw [hv] at hv'; cases hv'
    rw [hb] at hb'; cases hb'
    refine ⟨fun k' m2 v2 h2 hne hv2 hb2 => ?_, by simpa using (hm.old r ⟨k, m, _, hk, hv, hb⟩).1, (hm.old r ⟨k, m, _, hk, hv, hb⟩).2⟩
    rcases mem_setM hm.keys _ h2 with ⟨_, h3⟩ | h3
    · exact hm.apart k' m2 k m v2 _ r h3 hk hne hv2 hv hb2 hb
    · cases h3; exact absurd rfl hne

theorem findK_elim : ∀ {es : List (Int × SV)} {n : Int} {K1 : SV → Prop} {K0 : Prop}, findK es n K1 K0 →
    (∃ (i : Nat) (s : SV), es[i]? = some (n, s) ∧ (∀ (j : Nat) (m : Int) (s' : SV), j < i → es[j]? = some (m, s') → n ≠ m) ∧ K1 s) ∨ ((∀ (j : Nat) (m : Int) (s' : SV), es[j]? = some (m, s') → n ≠ m) ∧ K0)
  | [], n, K1, K0, h => .inr ⟨fun j m s' h => by simp at h, h⟩
  | (k, s) :: r, n, K1, K0, h => by
    have h : Br (n = k → K1 s) (¬ n = k → findK r n K1 K0) := h
    by_cases e : n = k
    · exact .inl ⟨0, s, by rw [e]; rfl, fun j _ _ hj => by omega, h.yes e⟩
    · rcases findK_elim (h.no e) with ⟨i, s1, h1, h2, h3⟩ | ⟨h1, h2⟩
      · refine .inl ⟨i + 1, s1, h1, fun j m s' hj hs => ?_, h3⟩
        cases j with
        | zero => simp at hs; rw [← hs.1]; exact e
        | succ j => exact h2 j m s' (by omega) hs
      · refine .inr ⟨fun j m s' hs => ?_, h2⟩
        cases j with
        | zero => simp at hs; rw [← hs.1]; exact e
        | succ j => exact h1 j m s' hs
theorem updK_elim : ∀ {es : List (Int × SV)} {n : Int} {s : SV} {K : List (Int × SV) → Prop}, updK es n s K →
    (∃ (i : Nat) (s0 : SV), es[i]? = some (n, s0) ∧ (∀ (j : Nat) (m : Int) (s' : SV), j < i → es[j]? = some (m, s') → n ≠ m) ∧ K (es.set i (n, s))) ∨ ((∀ (j : Nat) (m : Int) (s' : SV), es[j]? = some (m, s') → n ≠ m) ∧ K (es ++ [(n, s)]))
  | [], n, s, K, h => .inr ⟨fun j m s' h => by simp at h, h⟩
  | (k, s0) :: r, n, s, K, h => by
    have h : Br (n = k → K ((n, s) :: r)) (¬ n = k → updK r n s fun r' => K ((k, s0) :: r')) := h
    by_cases e : n = k
    · exact .inl ⟨0, s0, by rw [e]; rfl, fun j _ _ hj => by omega, h.yes e⟩
    · rcases updK_elim (h.no e) with ⟨i, s1, h1, h2, h3⟩ | ⟨h1, h2⟩
      · refine .inl ⟨i + 1, s1, h1, fun j m s' hj hs => ?_, h3⟩
        cases j with
        | zero => simp at hs; rw [← hs.1]; exact e
        | succ j => exact h2 j m s' (by omega) hs
      · refine .inr ⟨fun j m s' hs => ?_, h2⟩
        cases j with
        | zero => simp at hs; rw [← hs.1]; exact e
        | succ j => exact h1 j m s' hs

theorem findNow_hit {n : Int} : ∀ {ents : List MapEntry} {i : Nat} {e : MapEntry} (c : Nat), ents[i]? = some e → e.key = .int .i64 n → (∀ (j : Nat) e', j < i → ents[j]? = some e' → ∃ m, e'.key = .int .i64 m ∧ n ≠ m) →
    Instr.findNow (.int .i64) (.int .i64 n) ents c = some (some (c + i, e.val))
  | [], i, e, c, h, _, _ => by simp at h
  | x :: r, i, e, c, h, hk, ho => by
    cases i with
    | zero =>
      simp at h; subst h
      unfold Instr.findNow
      simp [Instr.sameNow, hk]
    | succ i =>
      obtain ⟨m, h1, h2⟩ := ho 0 x (by omega) rfl
      unfold Instr.findNow
      rw [h1]
      simp only [Instr.sameNow, if_true]
      rw [show (n == m) = false by simpa using h2]
      simp only
      rw [findNow_hit (c + 1) (i := i) h hk (fun j e' hj he => ho (j + 1) e' (by omega) he)]
      congr 2; congr 1; omega
theorem findNow_miss {n : Int} : ∀ {ents : List MapEntry} (c : Nat), (∀ (j : Nat) e', ents[j]? = some e' → ∃ m, e'.key = .int .i64 m ∧ n ≠ m) → Instr.findNow (.int .i64) (.int .i64 n) ents c = some none
  | [], c, _ => rfl
  | x :: r, c, ho => by
    obtain ⟨m, h1, h2⟩ := ho 0 x rfl
    unfold Instr.findNow
    rw [h1]
    simp only [Instr.sameNow, if_true]
    rw [show (n == m) = false by simpa using h2]
    exact findNow_miss (c + 1) fun j e' he => ho (j + 1) e' he

theorem run_checkKey {P : Program} {w : World} {kt : TypeId} {k : IntKind} (h : P.underlying kt = some (.int k)) (b : Bool) (v : Value) : (Instr.checkKey b 10000 kt v).run P w = .ok () w := by
  rw [Instr.checkKey]
  simp [run_underlying h]
theorem sameBits_int (n : Int) : Instr.sameBits 10000 (.int .i64 n) (.int .i64 n) = true := by
  unfold Instr.sameBits; simp

theorem makeMap_sound {P : Program} {Γ : List (TypeId × TI)} (hT : TOK P Γ) {t : TypeId} {x : Option Operand} {svs : List SV} {lm : Nat → Option Mem} {κ : Nat} {K : SV → MD → Prop}
    (h : makeMapV Γ t svs κ K) : ∃ r md, K r md ∧ OpOK P (.makeMap t x) svs lm κ r md := by
  unfold makeMapV at h
  replace h := withT_elim h; obtain ⟨i, hi, h⟩ := h
  have hk := (hT t i hi).kind
  split at h
  · rename_i kt et hkind
    rw [hkind] at hk
    have hk : P.underlying t = some (.map kt et) := hk
    have fin : ∀ (o : Oper) (Keep : Nat → Prop) (M : List (Nat × Mem)) (ρ : Names) (a : Act) (w : World), MemOK Keep M ρ w → ρ κ = none → (∀ m, (κ, m) ∉ M) →
        (execOp a.eval o).run P w = .ok (.value (.map (some w.heap.size))) (w.alloc (.map #[] 0)) → Does P o a w (After Keep M ρ w κ (.own κ) (.push (.map []))) := fun o Keep M ρ a w hm hκ hκM hrun =>
      Does.value hrun (After.push (u := .map (some w.heap.size)) (alloc_next hm hκ hκM _ _ _ (.map w) rfl fun hs =>
        ⟨w.heap.size, #[], 0, upd_same, heap_alloc_new w _, rfl, fun i n s hi => by simp at hi⟩) (.own _ _ upd_same rfl))
    split at h
    · refine ⟨_, _, h, fun o ho Keep M ρ a w _ hm hκ hκM hgs => fin o Keep M ρ a w hm (hκ _ (Nat.le_refl _) (Nat.lt_succ_self _)) (hκM rfl) ?_⟩
      have hx : x = none := by
        cases x with
        | none => rfl
        | some y => have := hgs.1; simp [operandsL, optL] at this
      subst hx
      simp [execOp, ho, Instr.makeMap]
    · rename_i kk nn rest
      refine ⟨_, _, h, fun o ho Keep M ρ a w _ hm hκ hκM hgs => fin o Keep M ρ a w hm (hκ _ (Nat.le_refl _) (Nat.lt_succ_self _)) (hκM rfl) ?_⟩
      cases x with
      | none => have := hgs.1; simp [operandsL, optL] at this
      | some y =>
        have hy : a.eval y = .int kk nn := (Gs.head hgs).val_inv
        simp [execOp, ho, Instr.makeMap, hy, run_underlying hk, asInt, asIntOf]
    · exact h.elim
  · exact h.elim

theorem mapUpdate_sound {P : Program} {Γ : List (TypeId × TI)} (hT : TOK P Γ) {t : TypeId} {x y z : Operand} {m k s : SV} {lm : Nat → Option Mem} {κ : Nat} {K : SV → MD → Prop}
    (h : mapUpdateV Γ t m k s lm K) : ∃ r md, K r md ∧ OpOK P (.mapUpdate t x y z) [m, k, s] lm κ r md := by
  unfold mapUpdateV at h
  replace h := withT_elim h; obtain ⟨i, hi, h⟩ := h
  have hk := (hT t i hi).kind
  split at h
  · rename_i kt et hkind
    rw [hkind] at hk
    have hk : P.underlying t = some (.map kt et) := hk
    replace h := withT_elim h; obtain ⟨j, hj, h⟩ := h
    have hkk := (hT kt j hj).kind
    split at h
    · rename_i c n hjk
      rw [hjk] at hkk
      have hkk : P.underlying kt = some (.int .i64) := hkk
      split at h
      · rename_i es hlk
        replace h := guardB_elim h; obtain ⟨hf, h⟩ := h
        rcases updK_elim h with ⟨i, s0, h1, h2, h3⟩ | ⟨h1, h3⟩
        · refine ⟨_, _, h3, fun o ho Keep M ρ a w hlm hm _ _ hgs => ?_⟩
          have hmem := mem_lookM (hlm c _ hlk)
          obtain ⟨r, ents, clock, g1, g2, g3, g4⟩ := hm.rel c _ hmem
          obtain ⟨v0, hρ, hx⟩ : ∃ v0, ρ c = some v0 ∧ a.eval x = v0 := ⟨_, (Gs.head hgs).own_inv.1, rfl⟩
          rw [g1] at hρ; cases hρ
          have hy : a.eval y = .int .i64 n := (Gs.head (Gs.tail hgs)).val_inv
          have hz := flat_d hf (Gs.head (Gs.tail (Gs.tail hgs)))
          obtain ⟨e, he, hek, hd⟩ := g4 i n s0 h1
          have hhit := findNow_hit (n := n) 0 (ents := ents.toList) (i := i) (e := e) (by simpa using he) hek (fun j e' hj he' => by
            have hjl : j < es.length := by have := (List.getElem?_eq_some_iff.1 h1).1; omega
            obtain ⟨⟨m, s'⟩, hms⟩ : ∃ p, es[j]? = some p := ⟨_, List.getElem?_eq_getElem hjl⟩
            obtain ⟨e2, q1, q2, _⟩ := g4 j m s' hms
            have he' : ents[j]? = some e' := by simpa using he'
            rw [q1] at he'; cases he'
            exact ⟨m, q2, h2 j m s' hj hms⟩)
          rw [Nat.zero_add] at hhit
          refine Does.skip (w' := { w with heap := w.heap.setIfInBounds r (.map (ents.modify i fun e => { e with key := .int .i64 n, val := a.eval z }) clock) }) ?_ ?_
          · simp [execOp, ho, hx, hy, Instr.mapUpdate, run_underlying hk, run_underlying hkk, MapKept.run_getObj_map g2, run_checkKey hkk, Instr.findKey, hhit, Instr.keyThatStays, he, hek, sameBits_int, MapKept.run_setObj_map _ g2]
          · refine After.set (hm.writeMap _ hmem g1 g2 _ _ fun hs => ⟨r, ents.modify i fun e => { e with key := .int .i64 n, val := a.eval z }, clock, g1, by rw [Array.getElem?_setIfInBounds]; simp [(Array.getElem?_eq_some_iff.1 g2).1], by simp [g3], fun j m s' hjm => ?_⟩) (.d _ _ (.val _))
            rw [List.getElem?_set] at hjm
            by_cases eij : i = j
            · subst eij
              rw [if_pos rfl] at hjm
              split at hjm
              · cases hjm
                exact ⟨{ e with key := .int .i64 n, val := a.eval z }, by rw [Array.getElem?_modify, if_pos rfl, he]; rfl, rfl, hz.stp hs⟩
              · cases hjm
            · rw [if_neg eij] at hjm
              obtain ⟨e2, q1, q2, q3⟩ := g4 j m s' hjm
              exact ⟨e2, by rw [Array.getElem?_modify, if_neg eij, q1], q2, q3.stp hs⟩
        · refine ⟨_, _, h3, fun o ho Keep M ρ a w hlm hm _ _ hgs => ?_⟩
          have hmem := mem_lookM (hlm c _ hlk)
          obtain ⟨r, ents, clock, g1, g2, g3, g4⟩ := hm.rel c _ hmem
          obtain ⟨v0, hρ, hx⟩ : ∃ v0, ρ c = some v0 ∧ a.eval x = v0 := ⟨_, (Gs.head hgs).own_inv.1, rfl⟩
          rw [g1] at hρ; cases hρ
          have hy : a.eval y = .int .i64 n := (Gs.head (Gs.tail hgs)).val_inv
          have hz := flat_d hf (Gs.head (Gs.tail (Gs.tail hgs)))
          have hmiss := findNow_miss (n := n) 0 (ents := ents.toList) (fun j e' he' => by
            have he' : ents[j]? = some e' := by simpa using he'
            have hjl : j < es.length := by have := (Array.getElem?_eq_some_iff.1 he').1; omega
            obtain ⟨⟨m, s'⟩, hms⟩ : ∃ p, es[j]? = some p := ⟨_, List.getElem?_eq_getElem hjl⟩
            obtain ⟨e2, q1, q2, _⟩ := g4 j m s' hms
            rw [q1] at he'; cases he'
            exact ⟨m, q2, h1 j m s' hms⟩)
          refine Does.skip (w' := { w with heap := w.heap.setIfInBounds r (.map (ents.push { key := .int .i64 n, val := a.eval z, born := clock }) (clock + 1)) }) ?_ ?_
          · simp [execOp, ho, hx, hy, Instr.mapUpdate, run_underlying hk, run_underlying hkk, MapKept.run_getObj_map g2, run_checkKey hkk, Instr.findKey, hmiss, MapKept.run_setObj_map _ g2]
          · refine After.set (hm.writeMap _ hmem g1 g2 _ _ fun hs => ⟨r, ents.push { key := .int .i64 n, val := a.eval z, born := clock }, clock + 1, g1, by rw [Array.getElem?_setIfInBounds]; simp [(Array.getElem?_eq_some_iff.1 g2).1], by simp [g3], fun j m s' hjm => ?_⟩) (.d _ _ (.val _))
            by_cases hj : j < es.length
            · rw [List.getElem?_append_left hj] at hjm
              obtain ⟨e2, q1, q2, q3⟩ := g4 j m s' hjm
              exact ⟨e2, by rw [Array.getElem?_push, if_neg (by omega), q1], q2, q3.stp hs⟩
            · rw [List.getElem?_append_right (by omega)] at hjm
              have hj0 : j = es.length := by
                have := (List.getElem?_eq_some_iff.1 hjm).1
                simp at this; omega
              subst hj0
              simp at hjm
              obtain ⟨rfl, rfl⟩ := hjm
              exact ⟨_, by rw [Array.getElem?_push, if_pos g3.symm], rfl, hz.stp hs⟩
      · exact h.elim
    · exact h.elim
  · exact h.elim

theorem insert_sound {P : Program} {Γ : List (TypeId × TI)} (hT : TOK P Γ) {t : TypeId} {x y z : Operand} {m k s : SV} {lm : Nat → Option Mem} {κ : Nat} {K : SV → MD → Prop}
    (h : mapUpdateV Γ t m k s lm K) : ∃ r md, K r md ∧ OpOK P (.insert t x y z) [m, k, s] lm κ r md := by
  unfold mapUpdateV at h
  replace h := withT_elim h; obtain ⟨i, hi, h⟩ := h
  have hk := (hT t i hi).kind
  split at h
  · rename_i kt et hkind
    rw [hkind] at hk
    have hk : P.underlying t = some (.map kt et) := hk
    replace h := withT_elim h; obtain ⟨j, hj, h⟩ := h
    have hkk := (hT kt j hj).kind
    split at h
    · rename_i c n hjk
      rw [hjk] at hkk
      have hkk : P.underlying kt = some (.int .i64) := hkk
      split at h
      · rename_i es hlk
        replace h := guardB_elim h; obtain ⟨hf, h⟩ := h
        rcases updK_elim h with ⟨i, s0, h1, h2, h3⟩ | ⟨h1, h3⟩
        · refine ⟨_, _, h3, fun o ho Keep M ρ a w hlm hm _ _ hgs => ?_⟩
          have hmem := mem_lookM (hlm c _ hlk)
          obtain ⟨r, ents, clock, g1, g2, g3, g4⟩ := hm.rel c _ hmem
          obtain ⟨v0, hρ, hx⟩ : ∃ v0, ρ c = some v0 ∧ a.eval x = v0 := ⟨_, (Gs.head hgs).own_inv.1, rfl⟩
          rw [g1] at hρ; cases hρ
          have hy : a.eval y = .int .i64 n := (Gs.head (Gs.tail hgs)).val_inv
          have hz := flat_d hf (Gs.head (Gs.tail (Gs.tail hgs)))
          obtain ⟨e, he, hek, hd⟩ := g4 i n s0 h1
          have hhit := findNow_hit (n := n) 0 (ents := ents.toList) (i := i) (e := e) (by simpa using he) hek (fun j e' hj he' => by
            have hjl : j < es.length := by have := (List.getElem?_eq_some_iff.1 h1).1; omega
            obtain ⟨⟨m, s'⟩, hms⟩ : ∃ p, es[j]? = some p := ⟨_, List.getElem?_eq_getElem hjl⟩
            obtain ⟨e2, q1, q2, _⟩ := g4 j m s' hms
            have he' : ents[j]? = some e' := by simpa using he'
            rw [q1] at he'; cases he'
            exact ⟨m, q2, h2 j m s' hj hms⟩)
          rw [Nat.zero_add] at hhit
          refine Does.skip (w' := { w with heap := w.heap.setIfInBounds r (.map (ents.modify i fun e => { e with key := .int .i64 n, val := a.eval z }) clock) }) ?_ ?_
          · simp [execOp, ho, hx, hy, Instr.mapUpdate, run_underlying hk, run_underlying hkk, MapKept.run_getObj_map g2, run_checkKey hkk, Instr.findKey, hhit, Instr.keyThatStays, he, hek, sameBits_int, MapKept.run_setObj_map _ g2]
          · refine After.set (hm.writeMap _ hmem g1 g2 _ _ fun hs => ⟨r, ents.modify i fun e => { e with key := .int .i64 n, val := a.eval z }, clock, g1, by rw [Array.getElem?_setIfInBounds]; simp [(Array.getElem?_eq_some_iff.1 g2).1], by simp [g3], fun j m s' hjm => ?_⟩) (.d _ _ (.val _))
            rw [List.getElem?_set] at hjm
            by_cases eij : i = j
            · subst eij
              rw [if_pos rfl] at hjm
              split at hjm
              · cases hjm
                exact ⟨{ e with key := .int .i64 n, val := a.eval z }, by rw [Array.getElem?_modify, if_pos rfl, he]; rfl, rfl, hz.stp hs⟩
              · cases hjm
            · rw [if_neg eij] at hjm
              obtain ⟨e2, q1, q2, q3⟩ := g4 j m s' hjm
              exact ⟨e2, by rw [Array.getElem?_modify, if_neg eij, q1], q2, q3.stp hs⟩
        · refine ⟨_, _, h3, fun o ho Keep M ρ a w hlm hm _ _ hgs => ?_⟩
          have hmem := mem_lookM (hlm c _ hlk)
          obtain ⟨r, ents, clock, g1, g2, g3, g4⟩ := hm.rel c _ hmem
          obtain ⟨v0, hρ, hx⟩ : ∃ v0, ρ c = some v0 ∧ a.eval x = v0 := ⟨_, (Gs.head hgs).own_inv.1, rfl⟩
          rw [g1] at hρ; cases hρ
          have hy : a.eval y = .int .i64 n := (Gs.head (Gs.tail hgs)).val_inv
          have hz := flat_d hf (Gs.head (Gs.tail (Gs.tail hgs)))
          have hmiss := findNow_miss (n := n) 0 (ents := ents.toList) (fun j e' he' => by
            have he' : ents[j]? = some e' := by simpa using he'
            have hjl : j < es.length := by have := (Array.getElem?_eq_some_iff.1 he').1; omega
            obtain ⟨⟨m, s'⟩, hms⟩ : ∃ p, es[j]? = some p := ⟨_, List.getElem?_eq_getElem hjl⟩
            obtain ⟨e2, q1, q2, _⟩ := g4 j m s' hms
            rw [q1] at he'; cases he'
            exact ⟨m, q2, h1 j m s' hms⟩)
          refine Does.skip (w' := { w with heap := w.heap.setIfInBounds r (.map (ents.push { key := .int .i64 n, val := a.eval z, born := clock }) (clock + 1)) }) ?_ ?_
          · simp [execOp, ho, hx, hy, Instr.mapUpdate, run_underlying hk, run_underlying hkk, MapKept.run_getObj_map g2, run_checkKey hkk, Instr.findKey, hmiss, MapKept.run_setObj_map _ g2]
          · refine After.set (hm.writeMap _ hmem g1 g2 _ _ fun hs => ⟨r, ents.push { key := .int .i64 n, val := a.eval z, born := clock }, clock + 1, g1, by rw [Array.getElem?_setIfInBounds]; simp [(Array.getElem?_eq_some_iff.1 g2).1], by simp [g3], fun j m s' hjm => ?_⟩) (.d _ _ (.val _))
            by_cases hj : j < es.length
            · rw [List.getElem?_append_left hj] at hjm
              obtain ⟨e2, q1, q2, q3⟩ := g4 j m s' hjm
              exact ⟨e2, by rw [Array.getElem?_push, if_neg (by omega), q1], q2, q3.stp hs⟩
            · rw [List.getElem?_append_right (by omega)] at hjm
              have hj0 : j = es.length := by
                have := (List.getElem?_eq_some_iff.1 hjm).1
                simp at this; omega
              subst hj0
              simp at hjm
              obtain ⟨rfl, rfl⟩ := hjm
              exact ⟨_, by rw [Array.getElem?_push, if_pos g3.symm], rfl, hz.stp hs⟩
      · exact h.elim
    · exact h.elim
  · exact h.elim

theorem lookup_sound {P : Program} {Γ : List (TypeId × TI)} (hT : TOK P Γ) {t : TypeId} {x y : Operand} {ok : Bool} {m k : SV} {lm : Nat → Option Mem} {κ : Nat} {K : SV → MD → Prop}
    (h : lookupV Γ t ok m k lm K) : ∃ r, K r .none ∧ OpOK P (.lookup t x y ok) [m, k] lm κ r .none := by
  unfold lookupV at h
  replace h := withT_elim h; obtain ⟨i, hi, h⟩ := h
  have hk := (hT t i hi).kind
  split at h
  · rename_i kt et hkind
    rw [hkind] at hk
    have hk : P.underlying t = some (.map kt et) := hk
    replace h := withT_elim h; obtain ⟨j, hj, h⟩ := h
    replace h := withT_elim h; obtain ⟨z, hz, h⟩ := h
    have hkk := (hT kt j hj).kind
    split at h
    · rename_i c n hjk
      rw [hjk] at hkk
      have hkk : P.underlying kt = some (.int .i64) := hkk
      split at h
      · rename_i es hlk
        have lookE : ∀ {s : SV} {b : Bool}, lookV ok s b K → ∃ r, K r .none ∧ ∀ {S Pm : Nat → Prop} {ρ : Names} {w : World} {v : Value}, G S Pm ρ w s v → G S Pm ρ w r (if ok then .tuple #[v, .bool b] else v) := fun {s b} h => by
          unfold lookV at h
          split at h
          · exact ⟨_, h, fun hg => .tup [s, .val (.bool b)] [_, .bool b] rfl (Gs.cons hg (.cons (.d _ _ (.val _)) .nil)).2⟩
          · exact ⟨_, force_elim h, fun hg => hg⟩
        rcases findK_elim h with ⟨i, s0, h1, h2, h3⟩ | ⟨h1, h3⟩
        · obtain ⟨res, hK, hres⟩ := lookE h3
          refine ⟨res, hK, fun o ho Keep M ρ a w hlm hm _ _ hgs => ?_⟩
          have hmem := mem_lookM (hlm c _ hlk)
          obtain ⟨r, ents, clock, g1, g2, g3, g4⟩ := hm.rel c _ hmem
          obtain ⟨v0, hρ, hx⟩ : ∃ v0, ρ c = some v0 ∧ a.eval x = v0 := ⟨_, (Gs.head hgs).own_inv.1, rfl⟩
          rw [g1] at hρ; cases hρ
          have hy : a.eval y = .int .i64 n := (Gs.head (Gs.tail hgs)).val_inv
          obtain ⟨e, he, hek, hd⟩ := g4 i n s0 h1
          have hhit := findNow_hit (n := n) 0 (ents := ents.toList) (i := i) (e := e) (by simpa using he) hek (fun j e' hj he' => by
            have hjl : j < es.length := by have := (List.getElem?_eq_some_iff.1 h1).1; omega
            obtain ⟨⟨m, s'⟩, hms⟩ : ∃ p, es[j]? = some p := ⟨_, List.getElem?_eq_getElem hjl⟩
            obtain ⟨e2, q1, q2, _⟩ := g4 j m s' hms
            have he' : ents[j]? = some e' := by simpa using he'
            rw [q1] at he'; cases he'
            exact ⟨m, q2, h2 j m s' hj hms⟩)
          rw [Nat.zero_add] at hhit
          refine Does.value (v := if ok then .tuple #[e.val, .bool true] else e.val) ?_ (After.same hm (hres (.d _ _ hd)))
          simp [execOp, ho, hx, hy, Instr.lookup, run_underlying hk, run_underlying hkk, MapKept.run_getObj_map g2, run_checkKey hkk, Instr.findKey, hhit]
        · obtain ⟨s, h3, hs⟩ := mkV_elim h3
          obtain ⟨res, hK, hres⟩ := lookE h3
          refine ⟨res, hK, fun o ho Keep M ρ a w hlm hm _ _ hgs => ?_⟩
          have hmem := mem_lookM (hlm c _ hlk)
          obtain ⟨r, ents, clock, g1, g2, g3, g4⟩ := hm.rel c _ hmem
          obtain ⟨v0, hρ, hx⟩ : ∃ v0, ρ c = some v0 ∧ a.eval x = v0 := ⟨_, (Gs.head hgs).own_inv.1, rfl⟩
          rw [g1] at hρ; cases hρ
          have hy : a.eval y = .int .i64 n := (Gs.head (Gs.tail hgs)).val_inv
          have hmiss := findNow_miss (n := n) 0 (ents := ents.toList) (fun j e' he' => by
            have he' : ents[j]? = some e' := by simpa using he'
            have hjl : j < es.length := by have := (Array.getElem?_eq_some_iff.1 he').1; omega
            obtain ⟨⟨m, s'⟩, hms⟩ : ∃ p, es[j]? = some p := ⟨_, List.getElem?_eq_getElem hjl⟩
            obtain ⟨e2, q1, q2, _⟩ := g4 j m s' hms
            rw [q1] at he'; cases he'
            exact ⟨m, q2, h1 j m s' hms⟩)
          obtain ⟨f, q1, q2, q3, zv, q4, q5, q6, q7, q8⟩ := (hT et z hz).inf
          refine Does.value (v := if ok then .tuple #[zv, .bool false] else zv) ?_ (After.same hm (hres ?_))
          · simp [execOp, ho, hx, hy, Instr.lookup, run_underlying hk, run_underlying hkk, MapKept.run_getObj_map g2, run_checkKey hkk, Instr.findKey, hmiss, zeroValue, typeInfo, q1, q4]
          · rcases hs with ⟨ha, rfl⟩ | ⟨ha, l, hl⟩
            · obtain ⟨f', p1, p2⟩ := (hT et z hz).zagg ha
              rw [q1] at p1; cases p1
              rw [q4] at p2; cases p2
              have : ((vals z.zero).take z.sz) = vals z.zero := List.take_of_length_le (by simp [vals, q7])
              rw [this]
              exact .agg _ z.zero (by simp [vals]) (Gs.vals _).2
            · have hz1 := q6 ha
              have : z.zero = [zv] := by rw [← q5, hz1]
              rw [this] at hl
              cases hl
              exact .d _ _ (.val _)
      · exact h.elim
    · exact h.elim
  · exact h.elim

theorem invoke_run {P : Program} {o : Oper} {c : Call} {r : Operand} {name : String} (ho : o.op = .call c) (hc : c.callee = .invoke r name) {a : Act} {w : World} {f : FuncId} {t : TypeId} {v : Value}
    (hr : a.eval r = .iface t v) (hm : methodB P t name f = true) (hcall : Callable P f) : (execOp a.eval o).run P w = .ok (.enter f (List.toArray (v :: c.args.toList.map a.eval))) w := by
  obtain ⟨fn, h1, h2, h3⟩ := hcall
  unfold methodB at hm
  simp only [Bool.and_eq_true] at hm
  obtain ⟨hu, hm⟩ := hm
  split at hu
  · rename_i F hF
    split at hm
    · rename_i i hi
      split at hm
      · rename_i m hfind
        simp only [Bool.and_eq_true] at hm
        obtain ⟨hp, hm⟩ := hm
        split at hm
        · rename_i g p hfunc
          simp only [Bool.and_eq_true, Bool.not_eq_true'] at hm
          obtain ⟨hg, rfl⟩ := hm
          have hg := Nat.eq_of_beq_eq_true hg
          subst hg
          have hpath : m.path.toList = [] := by simpa using hp
          simp only [execOp, ho, resolve, hc, hr, invoke, Sem.run_bind, Sem.run_pure, Result.andThen_ok]
          have harg : (#[Value.iface t v] ++ c.args.map a.eval)[0]? = some (.iface t v) := by
            rw [Array.getElem?_append_left (by simp)]; rfl
          have hext : (#[Value.iface t v] ++ c.args.map a.eval).extract 1 (#[Value.iface t v] ++ c.args.map a.eval).size = c.args.map a.eval := by
            apply Array.ext'
            rw [Array.toList_extract]
            simp
            exact List.take_of_length_le (by simp)
          simp only [harg, hext, callMethod, Sem.run_bind, run_program, Result.andThen_ok]
          have hmeth : (method (P.types.size + Made.depth) t v name).run P w = .ok (g, v) w := by
            rw [show P.types.size + Made.depth = (P.types.size + 99) + 1 from rfl, method]
            simp [typeInfo, hi, hfind, hpath, follow, hfunc, receiverAt, run_underlying hF, Place.get]
          rw [hmeth]
          simp only [Result.andThen_ok, callFunc, Sem.run_bind, run_program, h1, h2, h3, Bool.false_eq_true, if_false]
          simp
        · cases hm
      · cases hm
    · cases hm
  · cases hu

theorem makeIfc_sound {P : Program} {Γ : List (TypeId × TI)} (hT : TOK P Γ) {t : TypeId} {x : Operand} {s : SV} {lm : Nat → Option Mem} {κ : Nat} {K : SV → MD → Prop}
    (h : makeIfcV Γ t s K) : ∃ r, K r .none ∧ OpOK P (.makeInterface t x) [s] lm κ r .none := by
  unfold makeIfcV at h
  replace h := withT_elim h; obtain ⟨i, hi, h⟩ := h
  have hk := (hT t i hi).kind
  have key : ∀ d, P.underlying t = some d → (∀ ms, d ≠ .interface ms) → ∀ (o : Oper) (a : Act) (w : World), o.op = .makeInterface t x → (execOp a.eval o).run P w = .ok (.value (.iface t (a.eval x))) w := fun d hd hn o a w ho => by
    cases d <;> first | exact absurd rfl (hn _) | simp [execOp, ho, Instr.makeInterface, run_underlying hd]
  have fin : (∃ d, P.underlying t = some d ∧ ∀ ms, d ≠ .interface ms) → K (.ifc t s) .none → ∃ r, K r .none ∧ OpOK P (.makeInterface t x) [s] lm κ r .none := fun ⟨d, hd, hn⟩ h =>
    ⟨_, h, .pure fun o ho S Pm ρ a w hgs => ⟨_, key d hd hn o a w ho, .ifc t s _ (Gs.head hgs)⟩⟩
  cases hkk : i.kind <;> rw [hkk] at hk h <;> simp only [KindOK] at hk
  case struct fs => obtain ⟨F, hF, _⟩ := hk; exact fin ⟨_, hF, fun ms e => by cases e⟩ h
  case iface => exact h.elim
  case other => exact h.elim
  all_goals exact fin ⟨_, hk, fun ms e => by cases e⟩ h

theorem assertI_ifc {t t' : TypeId} {ok : Bool} {s' : SV} {Z : Prop} {K : SV → MD → Prop} : assertI t ok (.ifc t' s') Z K = (if Nat.beq t' t = true then lookV ok s' true K else if ok = true then Z else False) := by
  show (match Nat.beq t' t with
    | true => lookV ok s' true K
    | false => (match ok with
      | true => Z
      | false => False)) = _
  cases Nat.beq t' t <;> cases ok <;> simp
theorem assert_sound {P : Program} {Γ : List (TypeId × TI)} (hT : TOK P Γ) {t xt : TypeId} {x : Operand} {ok : Bool} {s : SV} {lm : Nat → Option Mem} {κ : Nat} {K : SV → MD → Prop}
    (h : assertV Γ t ok s K) : ∃ r, K r .none ∧ OpOK P (.typeAssert x xt t ok) [s] lm κ r .none := by
  unfold assertV at h
  replace h := withT_elim h; obtain ⟨i, hi, h⟩ := h
  have hk := (hT t i hi).kind
  have lookE : ∀ {ok : Bool} {s : SV} {b : Bool}, lookV ok s b K → ∃ r, K r .none ∧ ∀ {S Pm : Nat → Prop} {ρ : Names} {w : World} {v : Value}, G S Pm ρ w s v → G S Pm ρ w r (if ok then .tuple #[v, .bool b] else v) := fun {ok s b} h => by
    unfold lookV at h
    split at h
    · exact ⟨_, h, fun hg => .tup [s, .val (.bool b)] [_, .bool b] rfl (Gs.cons hg (.cons (.d _ _ (.val _)) .nil)).2⟩
    · exact ⟨_, force_elim h, fun hg => hg⟩
  obtain ⟨f, q1, q2, q3, zv, q4, q5, q6, q7, q8⟩ := (hT t i hi).inf
  have hzero : ∀ w : World, (zeroValue t).run P w = .ok zv w := fun w => by simp [zeroValue, typeInfo, q1, q4]
  have zeroE : (mkV i.kind.agg i.sz (vals i.zero) fun s => lookV true s false K) → ∃ r, K r .none ∧ ∀ {S Pm : Nat → Prop} {ρ : Names} {w : World}, G S Pm ρ w r (.tuple #[zv, .bool false]) := fun h => by
    obtain ⟨s, h, hs⟩ := mkV_elim h
    obtain ⟨r, hK, hr⟩ := lookE h
    refine ⟨r, hK, fun {S Pm ρ w} => ?_⟩
    have := hr (S := S) (Pm := Pm) (ρ := ρ) (w := w) (v := zv) ?_
    · simpa using this
    · rcases hs with ⟨ha, rfl⟩ | ⟨ha, l, hl⟩
      · obtain ⟨f', p1, p2⟩ := (hT t i hi).zagg ha
        rw [q1] at p1; cases p1
        rw [q4] at p2; cases p2
        have : ((vals i.zero).take i.sz) = vals i.zero := List.take_of_length_le (by simp [vals, q7])
        rw [this]
        exact .agg _ i.zero (by simp [vals]) (Gs.vals _).2
      · have hz1 := q6 ha
        have : i.zero = [zv] := by rw [← q5, hz1]
        rw [this] at hl
        cases hl
        exact .d _ _ (.val _)
  have body : (∃ d, P.underlying t = some d ∧ ∀ ms, d ≠ .interface ms) → assertI t ok s (mkV i.kind.agg i.sz (vals i.zero) fun s => lookV true s false K) K → ∃ r, K r .none ∧ OpOK P (.typeAssert x xt t ok) [s] lm κ r .none := fun ⟨d, hd, hn⟩ h' => by
    cases s with
    | ifc t' s' =>
      rw [assertI_ifc] at h'
      by_cases hb : Nat.beq t' t = true
      · rw [if_pos hb] at h'
        have e := Nat.eq_of_beq_eq_true hb
        subst e
        obtain ⟨r, hK, hr⟩ := lookE h'
        refine ⟨r, hK, .pure fun o ho S Pm ρ a w hgs => ?_⟩
        obtain ⟨v, hx, hv⟩ := (Gs.head hgs).ifc_inv
        refine ⟨_, ?_, hr hv⟩
        cases d <;> first | exact absurd rfl (hn _) | (cases ok <;> simp [execOp, ho, hx, Instr.typeAssert, run_underlying hd])
      · rw [if_neg hb] at h'
        have hne : ¬ t' = t := fun e => hb (by subst e; exact Nat.beq_refl _)
        cases ok with
        | true =>
          rw [if_pos rfl] at h'
          obtain ⟨r, hK, hr⟩ := zeroE h'
          refine ⟨r, hK, .pure fun o ho S Pm ρ a w hgs => ?_⟩
          obtain ⟨v, hx, hv⟩ := (Gs.head hgs).ifc_inv
          refine ⟨_, ?_, hr⟩
          cases d <;> first | exact absurd rfl (hn _) | simp [execOp, ho, hx, Instr.typeAssert, run_underlying hd, hne, hzero]
        | false => rw [if_neg (by decide)] at h'; exact h'.elim
    | val u =>
      cases u with
      | nilIface =>
        cases ok with
        | true =>
          obtain ⟨r, hK, hr⟩ := zeroE h'
          refine ⟨r, hK, .pure fun o ho S Pm ρ a w hgs => ?_⟩
          have hx := (Gs.head hgs).val_inv
          refine ⟨_, ?_, hr⟩
          cases d <;> first | exact absurd rfl (hn _) | simp [execOp, ho, hx, Instr.typeAssert, run_underlying hd, hzero]
        | false => exact h'.elim
      | _ => exact h'.elim
    | _ => exact h'.elim
  cases hkk : i.kind <;> rw [hkk] at hk <;> simp only [KindOK] at hk
  case struct fs => obtain ⟨F, hF, _⟩ := hk; rw [hkk] at h; exact body ⟨_, hF, fun ms e => by cases e⟩ (by rw [hkk]; exact h)
  case iface => rw [hkk] at h; exact h.elim
  case other => rw [hkk] at h; exact h.elim
  all_goals (rw [hkk] at h; exact body ⟨_, hk, fun ms e => by cases e⟩ (by rw [hkk]; exact h))

end Go.Gs
/- A call to which several blocks of one's own are handed over. -/
namespace Go.Gs

theorem MRel.named {S Pm : Nat → Prop} {ρ : Names} {w : World} {k : Nat} {m : Mem} (h : MRel S Pm ρ w k m) : ∃ v, ρ k = some v := by
  cases m with
  | box T cs => obtain ⟨b, vs, h1, _⟩ := h; exact ⟨_, h1⟩
  | arr T enc sz xs => obtain ⟨v, cells, h1, _⟩ := h; exact ⟨_, h1⟩
  | garr T sz xs => obtain ⟨v, cells, h1, _⟩ := h; exact ⟨_, h1⟩
  | map es => obtain ⟨r, ents, clock, h1, _⟩ := h; exact ⟨_, h1⟩

section
variable {S S' Pm Pm' : Nat → Prop} {ρ ρ' : Names} {w : World} {ks : List Nat} {κ n : Nat}

/-- Under the callee's names: what the caller knows. -/
theorem ren_down (hP : ∀ b, Pm' b → Pm b) (hρ : ∀ k v, k < n → ρ (rn ks κ k) = some v → ρ' k = some v) : ∀ (s : SV) {v : Value}, lowS n s = true → G S Pm ρ w (renS ks κ s) v → G S Pm' ρ' w s v := by
  intro s
  induction s using SV.rec (motive_2 := fun cs => ∀ {vs : List Value}, lowS.lows n cs = true → Gs S Pm ρ w (renS.rens ks κ cs) vs → Gs S Pm' ρ' w cs vs) with
  | val v => intro u _ hg; exact .d _ _ (hg.val_inv ▸ .val _)
  | pr p i => intro u _ hg; rw [hg.pr_inv]; exact .d _ _ (.pr p i)
  | sl enc xs => intro u _ hg; exact .d _ _ hg.sl_inv
  | nils => intro u _ hg; obtain ⟨a, rfl⟩ := hg.nils_inv; exact .d _ _ (.nils a)
  | anyb => intro u _ hg; obtain ⟨b, rfl⟩ := hg.anyb_inv; exact .d _ _ (.anyb b)
  | full enc xs => intro u _ hg; obtain ⟨a, rfl, hd⟩ := hg.full_inv; exact .d _ _ (.full enc xs a hd)
  | dptr cs _ => intro u _ hg; cases hg with | d _ _ h => exact .d _ _ h
  | dfn f cs _ => intro u _ hg; cases hg with | d _ _ h => exact .d _ _ h
  | junk => intro u _ _; exact .d _ _ (.junk u)
  | ptr cs _ =>
    intro u _ hg
    cases hg with
    | d _ _ h => cases h
    | ptr _ b o c hb hPb hc h => exact .ptr _ b o c hb (fun hp => hPb (hP b hp)) hc h
  | agg cs ih =>
    intro u h hg
    obtain ⟨vs, rfl, hvs⟩ := hg.agg_inv
    have := ih h hvs
    exact .agg _ vs this.1 this.2
  | tup cs ih =>
    intro u h hg
    obtain ⟨vs, rfl, hvs⟩ := hg.tup_inv
    have := ih h hvs
    exact .tup _ vs this.1 this.2
  | fn f cs ih =>
    intro u h hg
    obtain ⟨vs, rfl, hvs⟩ := hg.fn_inv
    have := ih h hvs
    exact .fn _ _ vs this.1 this.2
  | ifc t s ih =>
    intro u h hg
    obtain ⟨v, rfl, hv⟩ := hg.ifc_inv
    exact .ifc t _ v (ih h hv)
  | loc k off =>
    intro u h hg
    obtain ⟨b, g1, rfl⟩ := hg.loc_inv
    exact .loc _ _ _ (hρ k _ (by simpa [lowS] using h) g1)
  | own k =>
    intro u h hg
    obtain ⟨g1, g2⟩ := hg.own_inv
    exact .own _ _ (hρ k _ (by simpa [lowS] using h) g1) g2
  | eloc k sz i off =>
    intro u h hg
    obtain ⟨b, len, cap, g1, rfl⟩ := hg.eloc_inv
    exact .eloc _ _ _ _ b len cap (hρ k _ (by simpa [lowS] using h) g1)
  | win k sz lo m =>
    intro u h hg
    obtain ⟨b, len, cap, cap', g1, rfl, g2, g3⟩ := hg.win_inv
    exact .win _ _ _ _ b len cap cap' (hρ k _ (by simpa [lowS] using h) g1) g2 g3
  | nil =>
    rename_i vs _ hg
    rw [Gs.nil_inv hg]; exact .nil
  | cons c cs ih1 ih2 =>
    rename_i vs h hg
    simp only [lowS.lows] at h
    split at h
    · rename_i h1
      obtain ⟨v, vs', rfl, g1, g2⟩ := hg.cons_inv
      exact .cons (ih1 h1 g1) (ih2 h g2)
    · cases h

/-- Under the caller's names: what the callee leaves. -/
theorem ren_up (hS : ∀ b, S b → S' b) (hρ : ∀ k v, k < n → ρ' k = some v → ρ (rn ks κ k) = some v) : ∀ (s : SV) {v : Value}, outS n s = true → G S' Pm' ρ' w s v → G S Pm ρ w (renS ks κ s) v := by
  intro s
  induction s using SV.rec (motive_2 := fun cs => ∀ {vs : List Value}, outS.outs n cs = true → Gs S' Pm' ρ' w cs vs → Gs S Pm ρ w (renS.rens ks κ cs) vs) with
  | val v => intro u _ hg; exact .d _ _ (hg.val_inv ▸ .val _)
  | pr p i => intro u _ hg; rw [hg.pr_inv]; exact .d _ _ (.pr p i)
  | sl enc xs => intro u _ hg; exact .d _ _ (hg.sl_inv.less hS)
  | nils => intro u _ hg; obtain ⟨a, rfl⟩ := hg.nils_inv; exact .d _ _ (.nils a)
  | anyb => intro u _ hg; obtain ⟨b, rfl⟩ := hg.anyb_inv; exact .d _ _ (.anyb b)
  | full enc xs => intro u _ hg; obtain ⟨a, rfl, hd⟩ := hg.full_inv; exact .d _ _ (.full enc xs a (hd.less hS))
  | dptr cs _ => intro u _ hg; cases hg with | d _ _ h => exact .d _ _ (h.less hS)
  | dfn f cs _ => intro u _ hg; cases hg with | d _ _ h => exact .d _ _ (h.less hS)
  | junk => intro u _ _; exact .d _ _ (.junk u)
  | ptr cs _ => intro u h _; cases h
  | agg cs ih =>
    intro u h hg
    obtain ⟨vs, rfl, hvs⟩ := hg.agg_inv
    have := ih h hvs
    exact .agg _ vs this.1 this.2
  | tup cs ih =>
    intro u h hg
    obtain ⟨vs, rfl, hvs⟩ := hg.tup_inv
    have := ih h hvs
    exact .tup _ vs this.1 this.2
  | fn f cs ih =>
    intro u h hg
    obtain ⟨vs, rfl, hvs⟩ := hg.fn_inv
    have := ih h hvs
    exact .fn _ _ vs this.1 this.2
  | ifc t s ih =>
    intro u h hg
    obtain ⟨v, rfl, hv⟩ := hg.ifc_inv
    exact .ifc t _ v (ih h hv)
  | loc k off =>
    intro u h hg
    obtain ⟨b, g1, rfl⟩ := hg.loc_inv
    exact .loc _ _ _ (hρ k _ (by simpa [outS] using h) g1)
  | own k =>
    intro u h hg
    obtain ⟨g1, g2⟩ := hg.own_inv
    exact .own _ _ (hρ k _ (by simpa [outS] using h) g1) g2
  | eloc k sz i off =>
    intro u h hg
    obtain ⟨b, len, cap, g1, rfl⟩ := hg.eloc_inv
    exact .eloc _ _ _ _ b len cap (hρ k _ (by simpa [outS] using h) g1)
  | win k sz lo m =>
    intro u h hg
    obtain ⟨b, len, cap, cap', g1, rfl, g2, g3⟩ := hg.win_inv
    exact .win _ _ _ _ b len cap cap' (hρ k _ (by simpa [outS] using h) g1) g2 g3
  | nil =>
    rename_i vs _ hg
    rw [Gs.nil_inv hg]; exact .nil
  | cons c cs ih1 ih2 =>
    rename_i vs h hg
    simp only [outS.outs] at h
    split at h
    · rename_i h1
      obtain ⟨v, vs', rfl, g1, g2⟩ := hg.cons_inv
      exact .cons (ih1 h1 g1) (ih2 h g2)
    · cases h

theorem renSs_len : ∀ cs : List SV, (renS.rens ks κ cs).length = cs.length
  | [] => rfl
  | c :: cs => by simp only [renS.rens, List.length_cons, renSs_len cs]
theorem renSs_get : ∀ (cs : List SV) (j : Nat), (renS.rens ks κ cs)[j]? = (cs[j]?).map (renS ks κ)
  | [], j => by simp [renS.rens]
  | c :: cs, 0 => by simp [renS.rens]
  | c :: cs, j + 1 => by simpa [renS.rens] using renSs_get cs j
theorem lows_get : ∀ {cs : List SV}, lowS.lows n cs = true → ∀ (j : Nat) (s : SV), cs[j]? = some s → lowS n s = true
  | [], _, j, s, h => by simp at h
  | c :: cs, hl, j, s, h => by
    simp only [lowS.lows] at hl
    split at hl
    · rename_i h1
      cases j with
      | zero => simp at h; subst h; exact h1
      | succ j => exact lows_get hl j s (by simpa using h)
    · cases hl
theorem outs_get : ∀ {cs : List SV}, outS.outs n cs = true → ∀ (j : Nat) (s : SV), cs[j]? = some s → outS n s = true
  | [], _, j, s, h => by simp at h
  | c :: cs, hl, j, s, h => by
    simp only [outS.outs] at hl
    split at hl
    · rename_i h1
      cases j with
      | zero => simp at h; subst h; exact h1
      | succ j => exact outs_get hl j s (by simpa using h)
    · cases hl

theorem mrel_down (hP : ∀ b, Pm' b → Pm b) (hρ : ∀ k v, k < n → ρ (rn ks κ k) = some v → ρ' k = some v) {j : Nat} (hj : j < n) {m : Mem} (hl : lowM n m) (h : MRel S Pm ρ w (rn ks κ j) (renM ks κ m)) : MRel S Pm' ρ' w j m := by
  cases m with
  | box T cs =>
    obtain ⟨b, vs, h1, h2, h3, h4, h5⟩ := h
    refine ⟨b, vs, hρ j _ hj h1, h2, h3.trans (renSs_len cs), h4, fun i s v hs hv => ?_⟩
    exact ren_down hP hρ s (lows_get hl i s hs) (h5 i _ v (by rw [renSs_get, hs]; rfl) hv)
  | arr T enc sz xs =>
    obtain ⟨v, cells, h1, h2, h3, h4, h5, h6⟩ := h
    exact ⟨v, cells, hρ j _ hj h1, h2, h3, h4, h5, h6⟩
  | garr T sz xs =>
    obtain ⟨v, cells, h1, h2, h3, h4, h5, h6⟩ := h
    refine ⟨v, cells, hρ j _ hj h1, by simpa using h2, by simpa using h3, h4, fun x hx => ?_, fun i q x s hx hs => ?_⟩
    · have := h5 _ (List.mem_map_of_mem hx)
      rwa [renSs_len] at this
    · obtain ⟨u, hu, hg⟩ := h6 i q (renS.rens ks κ x) (renS ks κ s) (by rw [List.getElem?_map, hx]; rfl) (by rw [renSs_get, hs]; rfl)
      exact ⟨u, hu, ren_down hP hρ s (lows_get (hl x (List.mem_of_getElem? hx)) q s hs) hg⟩
  | map es =>
    obtain ⟨r, ents, clock, h1, h2, h3, h4⟩ := h
    exact ⟨r, ents, clock, hρ j _ hj h1, h2, h3, h4⟩

theorem mrel_up (hS : ∀ b, S b → S' b) (hρ : ∀ k v, k < n → ρ' k = some v → ρ (rn ks κ k) = some v) {j : Nat} (hj : j < n) {m : Mem} (hl : outM n m) (h : MRel S' Pm' ρ' w j m) : MRel S Pm ρ w (rn ks κ j) (renM ks κ m) := by
  cases m with
  | box T cs =>
    obtain ⟨b, vs, h1, h2, h3, h4, h5⟩ := h
    refine ⟨b, vs, hρ j _ hj h1, h2, h3.trans (renSs_len cs).symm, h4, fun i s v hs hv => ?_⟩
    rw [renSs_get] at hs
    cases hc : cs[i]? with
    | none => simp [hc] at hs
    | some c =>
      simp [hc] at hs
      subst hs
      exact ren_up hS hρ c (outs_get hl i c hc) (h5 i c v hc hv)
  | arr T enc sz xs =>
    obtain ⟨v, cells, h1, h2, h3, h4, h5, h6⟩ := h
    refine ⟨v, cells, hρ j _ hj h1, h2, h3, h4, h5, fun i q x s hx hs => ?_⟩
    obtain ⟨u, hu, hd⟩ := h6 i q x s hx hs
    exact ⟨u, hu, hd.less hS⟩
  | garr T sz xs =>
    obtain ⟨v, cells, h1, h2, h3, h4, h5, h6⟩ := h
    refine ⟨v, cells, hρ j _ hj h1, by simpa using h2, by simpa using h3, h4, fun x hx => ?_, fun i q x s hx hs => ?_⟩
    · obtain ⟨y, hy, rfl⟩ := List.mem_map.1 hx
      rw [renSs_len]; exact h5 y hy
    · rw [List.getElem?_map] at hx
      cases hy : xs[i]? with
      | none => simp [hy] at hx
      | some y =>
        simp [hy] at hx
        subst hx
        rw [renSs_get] at hs
        cases hc : y[q]? with
        | none => simp [hc] at hs
        | some c =>
          simp [hc] at hs
          subst hs
          obtain ⟨u, hu, hg⟩ := h6 i q y c hy hc
          exact ⟨u, hu, ren_up hS hρ c (outs_get (hl y (List.mem_of_getElem? hy)) q c hc) hg⟩
  | map es =>
    obtain ⟨r, ents, clock, h1, h2, h3, h4⟩ := h
    refine ⟨r, ents, clock, hρ j _ hj h1, h2, h3, fun i n s hi => ?_⟩
    obtain ⟨e, g1, g2, g3⟩ := h4 i n s hi
    exact ⟨e, g1, g2, g3.less hS⟩
end

theorem mem_dropAll {x : Nat × Mem} : ∀ {ks : List Nat} {M : List (Nat × Mem)}, x ∈ dropAll M ks → x ∈ M
  | [], _, h => h
  | k :: _, M, h => mem_dropM x (mem_dropAll (M := dropM M k) h)
theorem pairwise_dropAll : ∀ {ks : List Nat} {M : List (Nat × Mem)}, M.Pairwise (fun a b => a.1 ≠ b.1) → (dropAll M ks).Pairwise fun a b => a.1 ≠ b.1
  | [], _, h => h
  | k :: ks, M, h => pairwise_dropAll (ks := ks) (M := dropM M k) (pairwise_dropM h)
theorem dropAll_ne {x : Nat × Mem} : ∀ {ks : List Nat} {M : List (Nat × Mem)}, M.Pairwise (fun a b => a.1 ≠ b.1) → x ∈ dropAll M ks → x.1 ∉ ks
  | [], _, _, _ => by simp
  | k :: r, M, hp, h => by
    intro hk
    cases hk with
    | head => exact dropM_ne hp x (mem_dropAll (M := dropM M x.1) h) rfl
    | tail _ hk => exact dropAll_ne (pairwise_dropM hp) h hk
theorem memN_mem {k : Nat} : ∀ {l : List Nat}, k ∈ l → memN k l = true
  | [], h => (by cases h)
  | x :: r, h => by
    simp only [memN]
    split
    · rfl
    · rename_i hb
      cases h with
      | head => simp [Nat.beq_refl] at hb
      | tail _ h => exact memN_mem h
theorem nodupN_get : ∀ {l : List Nat}, nodupN l = true → ∀ (i j k : Nat), l[i]? = some k → l[j]? = some k → i = j
  | [], _, i, j, k, h, _ => by simp at h
  | x :: r, hn, i, j, k, hi, hj => by
    simp only [nodupN] at hn
    split at hn
    · cases hn
    · rename_i hm
      have out : ∀ q : Nat, r[q]? ≠ some x := fun q hq => by
        have := memN_mem (List.mem_of_getElem? hq)
        rw [this] at hm; cases hm
      match i, j with
      | 0, 0 => rfl
      | 0, j + 1 => simp at hi hj; subst hi; exact absurd hj (out j)
      | i + 1, 0 => simp at hi hj; subst hj; exact absurd hi (out i)
      | i + 1, j + 1 => rw [nodupN_get hn i j k (by simpa using hi) (by simpa using hj)]
theorem keysB_lt {n : Nat} : ∀ {l : List (Nat × Mem)}, keysB n l = true → ∀ k m, (k, m) ∈ l → k < n
  | [], _, k, m, h => (by cases h)
  | (q, y) :: r, hb, k, m, h => by
    simp only [keysB] at hb
    obtain ⟨h1, h2⟩ := andB_elim hb
    cases h with
    | head => simpa using h1
    | tail _ h => exact keysB_lt h2 k m h
theorem memM_mem {k : Nat} {m : Mem} : ∀ {l : List (Nat × Mem)}, (k, m) ∈ l → memM k l = true
  | [], h => (by cases h)
  | (q, y) :: r, h => by
    simp only [memM]
    split
    · rfl
    · rename_i hb
      cases h with
      | head => simp [Nat.beq_refl] at hb
      | tail _ h => exact memM_mem h
theorem nodupM_elim : ∀ {l : List (Nat × Mem)}, nodupM l = true → l.Pairwise fun a b => a.1 ≠ b.1
  | [], _ => List.Pairwise.nil
  | (q, y) :: r, h => by
    simp only [nodupM] at h
    split at h
    · cases h
    · rename_i hm
      refine List.pairwise_cons.2 ⟨fun z hz e => ?_, nodupM_elim h⟩
      obtain ⟨k, m⟩ := z
      have e : q = k := e
      subst e
      rw [memM_mem hz] at hm; cases hm
theorem normK_elim : ∀ {n : Nat} {K : Nat → Prop}, normK n K → K n
  | 0, _, h => h
  | n + 1, _, h => normK_elim (n := n) h
theorem forceCs_elim : ∀ {l : List SV} {K : List SV → Prop}, forceCs l K → K l
  | [], _, h => h
  | c :: l, K, h => forceCs_elim (l := l) (K := fun r => K (c :: r)) (force_elim (s := c) (K := fun c => forceCs l fun r => K (c :: r)) h)
theorem forceM1_elim {m : Mem} {K : Mem → Prop} (h : forceM1 m K) : K m := by
  cases m with
  | box T cs => exact forceCs_elim (K := fun cs => K (.box T cs)) h
  | arr T enc sz xs => exact h
  | garr T sz xs => exact h
  | map es => exact h
theorem forceMs_elim : ∀ {l : List (Nat × Mem)} {K : List (Nat × Mem) → Prop}, forceMs l K → K l
  | [], _, h => h
  | (k, m) :: l, K, h => forceMs_elim (l := l) (K := fun r => K ((k, m) :: r)) (forceM1_elim (m := m) (K := fun m => forceMs l fun r => K ((k, m) :: r)) (normK_elim (n := k) (K := fun k => forceM1 m fun m => forceMs l fun r => K ((k, m) :: r)) h))
theorem givenOK_get {lm : Nat → Option Mem} {ks0 : List Nat} {κ : Nat} {Mc : List (Nat × Mem)} : ∀ {ks : List Nat} {i : Nat}, givenOK lm ks0 κ Mc i ks → ∀ (q k : Nat), ks[q]? = some k → ∃ m, lookM Mc (i + q) = some m ∧ lm k = some (renM ks0 κ m) ∧ lowM ks0.length m
  | [], i, _, q, k, h => by simp at h
  | x :: r, i, hg, q, k, h => by
    cases q with
    | zero => simp at h; subst h; exact hg.1
    | succ q =>
      have := givenOK_get hg.2 q k (by simpa using h)
      rwa [show i + 1 + q = i + (q + 1) by omega] at this
theorem leftOK_get {n : Nat} : ∀ {l : List (Nat × Mem)}, leftOK n l → ∀ j m, (j, m) ∈ l → j < n ∧ outM n m
  | [], _, j, m, h => (by cases h)
  | (q, y) :: r, hl, j, m, h => by
    cases h with
    | head => exact ⟨by simpa using hl.1.1, hl.1.2⟩
    | tail _ h => exact leftOK_get hl.2 j m h
theorem renMs_mem {ks : List Nat} {κ : Nat} : ∀ {l : List (Nat × Mem)} {k : Nat} {m : Mem}, (k, m) ∈ renMs ks κ l → ∃ j m0, (j, m0) ∈ l ∧ k = rn ks κ j ∧ m = renM ks κ m0
  | [], _, _, h => (by cases h)
  | (q, y) :: r, k, m, h => by
    cases h with
    | head => exact ⟨q, y, .head _, rfl, rfl⟩
    | tail _ h =>
      obtain ⟨j, m0, h1, h2⟩ := renMs_mem h
      exact ⟨j, m0, .tail _ h1, h2⟩
theorem mem_renMs {ks : List Nat} {κ : Nat} : ∀ {l : List (Nat × Mem)} {j : Nat} {m : Mem}, (j, m) ∈ l → (rn ks κ j, renM ks κ m) ∈ renMs ks κ l
  | (q, y) :: r, j, m, h => by
    cases h with
    | head => exact .head _
    | tail _ h => exact .tail _ (mem_renMs h)
theorem rn_in {ks : List Nat} {κ j k : Nat} (h : ks[j]? = some k) : rn ks κ j = k := by unfold rn; rw [h]
theorem rn_out {ks : List Nat} {κ j : Nat} (h : ks.length ≤ j) : rn ks κ j = κ + (j - ks.length) := by unfold rn; rw [List.getElem?_eq_none h]

/-- Several blocks handed over. -/
theorem give_sound {P : Program} {f : FuncId} {as : List SV} {lm : Nat → Option Mem} {κ nn : Nat} {ks : List Nat} {args' : List SV} {Mc M' : List (Nat × Mem)} {r : SV} (hcall : CallsG P f args' Mc r M')
    (ha : LEs as (renS.rens ks κ args')) (hl : lowS.lows ks.length args' = true) (hn : nodupN ks = true) (hk : andB (Nat.beq Mc.length ks.length) (andB (keysB ks.length Mc) (nodupM Mc)) = true) (hM : givenOK lm ks κ Mc 0 ks)
    (hr : outS (ks.length + nn) r = true) (hM' : leftOK (ks.length + nn) M') {Keep : Nat → Prop} {M : List (Nat × Mem)} {ρ : Names} {w : World} (hlm : ∀ k m, lm k = some m → lookM M k = some m) (hm : MemOK Keep M ρ w)
    (hκ : ∀ k, κ ≤ k → k < κ + nn → ρ k = none) {vs : List Value} (hg : Gs (fun b => Keep b ∨ Own M ρ b) (Own M ρ) ρ w as vs) :
    Calls P f vs.toArray w fun e w' => ∃ v, e = .returned v ∧ After Keep M ρ w κ (renS ks κ r) (.give ks (renMs ks κ M') nn) v w' := by
  obtain ⟨hlen, hk⟩ := andB_elim hk
  obtain ⟨hkb, hkd⟩ := andB_elim hk
  have hkd := nodupM_elim hkd
  have hlen := Nat.eq_of_beq_eq_true hlen
  obtain ⟨n, hnl⟩ : ∃ n, n = ks.length := ⟨_, rfl⟩
  rw [← hnl] at hlen hkb hl hr hM'
  -- the callee's names
  obtain ⟨ρc, hρc⟩ : ∃ ρc : Names, ∀ j, ρc j = (match ks[j]? with | some k => ρ k | none => none) := ⟨_, fun _ => rfl⟩
  have given : ∀ j m, (j, m) ∈ Mc → ∃ k, ks[j]? = some k ∧ lookM Mc j = some m ∧ lm k = some (renM ks κ m) ∧ lowM n m := fun j m hj => by
    have hjn := keysB_lt hkb j m hj
    have hkj := List.getElem?_eq_getElem (show j < ks.length by omega)
    obtain ⟨m', h1, h2, h3⟩ := givenOK_get hM j _ hkj
    rw [Nat.zero_add] at h1
    have : m' = m := by
      have h4 := mem_lookM h1
      by_cases e : (j, m') = (j, m)
      · simpa using e
      · exfalso
        have := hkd
        obtain ⟨a, ha'⟩ := List.getElem?_of_mem h4
        obtain ⟨b, hb'⟩ := List.getElem?_of_mem hj
        have hne : a ≠ b := fun e' => by subst e'; rw [ha'] at hb'; cases hb'; exact e rfl
        rw [List.pairwise_iff_getElem] at this
        obtain ⟨al, ae⟩ := List.getElem?_eq_some_iff.1 ha'
        obtain ⟨bl, be⟩ := List.getElem?_eq_some_iff.1 hb'
        rcases Nat.lt_or_gt_of_ne hne with h | h
        · have := this a b al bl h; rw [ae, be] at this; exact this rfl
        · have := this b a bl al h; rw [ae, be] at this; exact this rfl
    subst this
    exact ⟨_, hkj, h1, h2, by rw [hnl]; exact h3⟩
  have hdown : ∀ k v, k < n → ρ (rn ks κ k) = some v → ρc k = some v := fun k v hkn hv => by
    have hkj := List.getElem?_eq_getElem (show k < ks.length by omega)
    rw [rn_in hkj] at hv
    rw [hρc, hkj]; exact hv
  have ownc : ∀ b, Own Mc ρc b → ∃ j k m v, (j, m) ∈ Mc ∧ ks[j]? = some k ∧ (k, renM ks κ m) ∈ M ∧ ρ k = some v ∧ blkOf v = some b := by
    rintro b ⟨j, m, v, h1, h2, h3⟩
    obtain ⟨k, hkj, _, hlk, _⟩ := given j m h1
    rw [hρc, hkj] at h2
    exact ⟨j, k, m, v, h1, hkj, mem_lookM (hlm k _ hlk), h2, h3⟩
  have ownsub : ∀ b, Own Mc ρc b → Own M ρ b := fun b hb => by
    obtain ⟨j, k, m, v, _, _, h1, h2, h3⟩ := ownc b hb
    exact ⟨k, _, v, h1, h2, h3⟩
  obtain ⟨R, hR⟩ : ∃ R, R = dropAll M ks := ⟨_, rfl⟩
  have memR : ∀ x, x ∈ R → x ∈ M ∧ x.1 ∉ ks := fun x hx => by subst hR; exact ⟨mem_dropAll hx, dropAll_ne hm.keys hx⟩
  obtain ⟨Kp, hKp⟩ : ∃ Kp : Nat → Prop, ∀ b, Kp b ↔ (Keep b ∨ Own R ρ b) := ⟨_, fun _ => Iff.rfl⟩
  have ownR : ∀ b, Own R ρ b → Own M ρ b := fun b ⟨k, m, v, h1, h2, h3⟩ => ⟨k, m, v, (memR _ h1).1, h2, h3⟩
  have split : ∀ b, Keep b ∨ Own M ρ b → Kp b ∨ Own Mc ρc b := by
    rintro b (hb | ⟨k, m, v, h1, h2, h3⟩)
    · exact .inl ((hKp b).2 (.inl hb))
    · by_cases hks : k ∈ ks
      · obtain ⟨j, hj⟩ := List.getElem?_of_mem hks
        obtain ⟨m', g1, g2, _⟩ := givenOK_get hM j k hj
        rw [Nat.zero_add] at g1
        exact .inr ⟨j, m', v, mem_lookM g1, by rw [hρc, hj]; exact h2, h3⟩
      · refine .inl ((hKp b).2 (.inr ⟨k, m, v, ?_, h2, h3⟩))
        subst hR
        have hin : ∀ {ks : List Nat} {M : List (Nat × Mem)}, (k, m) ∈ M → k ∉ ks → (k, m) ∈ dropAll M ks := by
          intro ks
          induction ks with
          | nil => intro M h _; exact h
          | cons q r ih =>
            intro M h hq
            refine ih (M := dropM M q) ?_ (fun e => hq (.tail _ e))
            have hne : k ≠ q := fun e => hq (e ▸ .head _)
            clear ih hq
            induction M with
            | nil => cases h
            | cons x xs ihx =>
              obtain ⟨a, y⟩ := x
              simp only [dropM]
              split
              · rename_i hb
                have := Nat.eq_of_beq_eq_true hb
                subst this
                cases h with
                | head => exact absurd rfl hne
                | tail _ h => exact h
              · cases h with
                | head => exact .head _
                | tail _ h => exact .tail _ (ihx h)
        exact hin h1 hks
  have unsplit : ∀ b, Kp b ∨ Own Mc ρc b → Keep b ∨ Own M ρ b := fun b hb => hb.elim (fun h => ((hKp b).1 h).imp id (ownR b)) fun h => .inr (ownsub b h)
  have apartR : ∀ b, Kp b → ¬ Own Mc ρc b := fun b hb ho => by
    obtain ⟨j, k, m, v, _, hkj, h1, h2, h3⟩ := ownc b ho
    rcases (hKp b).1 hb with hb | ⟨k', m', v', g1, g2, g3⟩
    · exact (hm.old b ⟨k, _, v, h1, h2, h3⟩).2 hb
    · have hne : k ≠ k' := fun e => (memR _ g1).2 (e ▸ List.mem_of_getElem? hkj)
      exact hm.apart k _ k' m' v v' b h1 (memR _ g1).1 hne h2 g2 h3 g3
  have hkp : ∀ b, Kp b → b < w.heap.size := fun b hb => ((hKp b).1 hb).elim (hm.kp b) fun h => (hm.old b (ownR b h)).1
  have hmc : MemOK Kp Mc ρc w := by
    refine ⟨fun j m hj => ?_, hkd, fun j m j' m' v v' b h1 h2 hne g1 g2 g3 g4 => ?_, fun b hb => ⟨(hm.old b (ownsub b hb)).1, fun h => apartR b h hb⟩, hkp⟩
    · obtain ⟨k, hkj, _, hlk, hlow⟩ := given j m hj
      have hmem := hm.rel k _ (mem_lookM (hlm k _ hlk))
      have hmem2 : MRel (fun b => Kp b ∨ Own Mc ρc b) (Own M ρ) ρ w (rn ks κ j) (renM ks κ m) := by
        rw [rn_in hkj]
        have hS : (fun b => Kp b ∨ Own Mc ρc b) = fun b => Keep b ∨ Own M ρ b := funext fun b => propext ⟨unsplit b, split b⟩
        rw [hS]; exact hmem
      exact mrel_down ownsub hdown (keysB_lt hkb j m hj) hlow hmem2
    · obtain ⟨k, hkj, _, hlk, _⟩ := given j m h1
      obtain ⟨k', hkj', _, hlk', _⟩ := given j' m' h2
      rw [hρc, hkj] at g1
      rw [hρc, hkj'] at g2
      exact hm.apart k _ k' _ v v' b (mem_lookM (hlm k _ hlk)) (mem_lookM (hlm k' _ hlk')) (fun e => hne (nodupN_get hn j j' k hkj (e ▸ hkj'))) g1 g2 g3 g4
  have hargs : Gs (fun b => Kp b ∨ Own Mc ρc b) (Own Mc ρc) ρc w args' vs := by
    have hS : (fun b => Kp b ∨ Own Mc ρc b) = fun b => Keep b ∨ Own M ρ b := funext fun b => propext ⟨unsplit b, split b⟩
    rw [hS]
    have h1 : Gs (fun b => Keep b ∨ Own M ρ b) (Own M ρ) ρ w (renS.rens ks κ args') vs := by
      clear hl
      generalize renS.rens ks κ args' = bs at ha
      induction ha generalizing vs with
      | nil => exact hg
      | cons h t ih =>
        obtain ⟨v, vs', rfl, g1, g2⟩ := hg.cons_inv
        exact .cons (h _ _ _ _ _ g1) (ih g2)
    refine ⟨h1.1.trans (renSs_len args'), fun j s v hs hv => ?_⟩
    exact ren_down ownsub hdown s (lows_get hl j s hs) (h1.2 j _ v (by rw [renSs_get, hs]; rfl) hv)
  refine (hcall.2 Kp ρc w vs hkp hmc (fun k hk => ?_) hargs).mono ?_
  · rw [hρc, List.getElem?_eq_none (by omega)]
  rintro e w' ⟨v, ρ', rfl, hs, hm', hgr⟩
  refine ⟨v, rfl, ?_⟩
  -- the caller's names
  obtain ⟨ρ2, hρ2⟩ : ∃ ρ2 : Names, ∀ k, ρ2 k = if κ ≤ k ∧ k < κ + nn then ρ' (n + (k - κ)) else ρ k := ⟨_, fun _ => rfl⟩
  have named : ∀ j k, ks[j]? = some k → ∃ v, ρ k = some v ∧ ρ' j = some v := fun j k hj => by
    obtain ⟨m', g1, g2, _⟩ := givenOK_get hM j k hj
    obtain ⟨v, hv⟩ := (hm.rel k _ (mem_lookM (hlm k _ g2))).named
    exact ⟨v, hv, hs.rho j v (by rw [hρc, hj]; exact hv)⟩
  have hup : ∀ j v, j < n + nn → ρ' j = some v → ρ2 (rn ks κ j) = some v := fun j v hj hv => by
    by_cases hjn : j < n
    · have hkj := List.getElem?_eq_getElem (show j < ks.length by omega)
      obtain ⟨v1, h1, h2⟩ := named j _ hkj
      rw [hv] at h2; cases h2
      rw [rn_in hkj, hρ2, if_neg, h1]
      rintro ⟨h3, h4⟩
      rw [hκ _ h3 h4] at h1; cases h1
    · rw [rn_out (by omega), hρ2, if_pos (by omega)]
      rw [← hnl, show n + (κ + (j - n) - κ) = j by omega]; exact hv
  have hrho : ∀ k v, ρ k = some v → ρ2 k = some v := fun k v hv => by
    rw [hρ2, if_neg, hv]
    rintro ⟨h3, h4⟩
    rw [hκ _ h3 h4] at hv; cases hv
  have back : ∀ j v, j < n + nn → ρ2 (rn ks κ j) = some v → ρ' j = some v := fun j v hj hv => by
    by_cases hjn : j < n
    · have hkj := List.getElem?_eq_getElem (show j < ks.length by omega)
      obtain ⟨v1, h1, h2⟩ := named j _ hkj
      have := hrho _ _ h1
      rw [rn_in hkj, this] at hv; cases hv
      exact h2
    · rw [rn_out (by omega), hρ2, if_pos (by omega), ← hnl, show n + (κ + (j - n) - κ) = j by omega] at hv; exact hv
  have nameR : ∀ k m, (k, m) ∈ R → ∃ v, ρ k = some v ∧ ρ2 k = some v := fun k m hk => by
    obtain ⟨v, hv⟩ := (hm.rel k m (memR _ hk).1).named
    exact ⟨v, hv, hrho k v hv⟩
  have ownNew : ∀ b, Own (renMs ks κ M' ++ R) ρ2 b ↔ (Own M' ρ' b ∨ Own R ρ b) := fun b => by
    constructor
    · rintro ⟨k, m, v1, h1, h2, h3⟩
      rcases List.mem_append.1 h1 with h1 | h1
      · obtain ⟨j, m0, g1, rfl, _⟩ := renMs_mem h1
        exact .inl ⟨j, m0, v1, g1, back j v1 (leftOK_get hM' j m0 g1).1 h2, h3⟩
      · obtain ⟨v2, g1, g2⟩ := nameR k m h1
        rw [h2] at g2; cases g2
        exact .inr ⟨k, m, v1, h1, g1, h3⟩
    · rintro (⟨j, m, v1, h1, h2, h3⟩ | ⟨k, m, v1, h1, h2, h3⟩)
      · exact ⟨_, _, v1, List.mem_append_left _ (mem_renMs h1), hup j v1 (leftOK_get hM' j m h1).1 h2, h3⟩
      · exact ⟨k, m, v1, List.mem_append_right _ h1, hrho k v1 h2, h3⟩
  have hset : ∀ b, Keep b ∨ Own (renMs ks κ M' ++ R) ρ2 b → Kp b ∨ Own M' ρ' b := fun b hb => by
    rcases hb with hb | hb
    · exact .inl ((hKp b).2 (.inl hb))
    · rcases (ownNew b).1 hb with h | h
      · exact .inr h
      · exact .inl ((hKp b).2 (.inr h))
  have hst : Stp (Own M ρ) (Own (renMs ks κ M' ++ R) ρ2) ρ ρ2 w w' := by
    refine ⟨hs.os, hs.tape, hs.output, hs.size, fun b hb hnb => hs.block b hb fun ho => hnb (ownsub b ho), fun b hb => ?_, hrho⟩
    rcases (ownNew b).1 hb with h | h
    · exact (hs.own b h).imp (ownsub b) id
    · exact .inl (ownR b h)
  have keyNew : ∀ k m, (k, m) ∈ renMs ks κ M' → k ∉ (R.map (·.1)) := fun k m hk hin => by
    obtain ⟨j, m0, g1, rfl, _⟩ := renMs_mem hk
    obtain ⟨⟨k2, m2⟩, h1, h2⟩ := List.mem_map.1 hin
    have h2 : k2 = rn ks κ j := h2
    by_cases hjn : j < n
    · have hkj := List.getElem?_eq_getElem (show j < ks.length by omega)
      rw [rn_in hkj] at h2
      exact (memR _ h1).2 (h2 ▸ List.mem_of_getElem? hkj)
    · have := (leftOK_get hM' j m0 g1).1
      rw [rn_out (by omega)] at h2
      obtain ⟨v1, hv1, _⟩ := nameR k2 m2 h1
      rw [hκ k2 (by omega) (by omega)] at hv1; cases hv1
  have rninj : ∀ j j', j < n + nn → j' < n + nn → rn ks κ j = rn ks κ j' → j = j' := fun j j' hj hj' he => by
    by_cases h1 : j < n <;> by_cases h2 : j' < n
    · have k1 := List.getElem?_eq_getElem (show j < ks.length by omega)
      have k2 := List.getElem?_eq_getElem (show j' < ks.length by omega)
      rw [rn_in k1, rn_in k2] at he
      exact nodupN_get hn j j' _ k1 (by rw [k2, he])
    · have k1 := List.getElem?_eq_getElem (show j < ks.length by omega)
      obtain ⟨v1, hv1, _⟩ := named j _ k1
      rw [rn_in k1, rn_out (by omega)] at he
      rw [hκ _ (by omega) (by omega)] at hv1; cases hv1
    · have k2 := List.getElem?_eq_getElem (show j' < ks.length by omega)
      obtain ⟨v1, hv1, _⟩ := named j' _ k2
      rw [rn_in k2, rn_out (by omega)] at he
      rw [hκ _ (by omega) (by omega)] at hv1; cases hv1
    · rw [rn_out (by omega), rn_out (by omega)] at he; omega
  have hpw : (renMs ks κ M' ++ R).Pairwise fun a b => a.1 ≠ b.1 := by
    rw [List.pairwise_append]
    refine ⟨?_, by subst hR; exact pairwise_dropAll hm.keys, fun x hx y hy e => keyNew x.1 x.2 hx (e ▸ List.mem_map_of_mem hy)⟩
    have : ∀ {l : List (Nat × Mem)}, l.Pairwise (fun a b => a.1 ≠ b.1) → (∀ j m, (j, m) ∈ l → j < n + nn) → (renMs ks κ l).Pairwise fun a b => a.1 ≠ b.1 := by
      intro l
      induction l with
      | nil => intro _ _; exact List.Pairwise.nil
      | cons x xs ih =>
        intro hp hlt
        obtain ⟨j, m⟩ := x
        rw [List.pairwise_cons] at hp
        refine List.pairwise_cons.2 ⟨fun y hy e => ?_, ih hp.2 fun j m h => hlt j m (.tail _ h)⟩
        obtain ⟨k, m'⟩ := y
        obtain ⟨j', m0, g1, g2, _⟩ := renMs_mem hy
        have e : rn ks κ j = k := e
        rw [g2] at e
        exact hp.1 (j', m0) g1 (rninj j j' (hlt j m (.head _)) (hlt j' m0 (.tail _ g1)) e)
    exact this hm'.keys fun j m h => (leftOK_get hM' j m h).1
  have hmem : MemOK Keep (renMs ks κ M' ++ R) ρ2 w' := by
    refine ⟨fun k m hk => ?_, hpw, fun k m k' m' v1 v2 b h1 h2 hne g1 g2 g3 g4 => ?_, fun b hb => ?_, fun b hb => Nat.lt_of_lt_of_le (hm.kp b hb) hs.size⟩
    · rcases List.mem_append.1 hk with hk | hk
      · obtain ⟨j, m0, h1, rfl, rfl⟩ := renMs_mem hk
        exact mrel_up hset hup (leftOK_get hM' j m0 h1).1 (leftOK_get hM' j m0 h1).2 (hm'.rel j m0 h1)
      · obtain ⟨v1, h1, h2⟩ := nameR k m hk
        refine MRel.keep hst (h2.trans h1.symm) (fun v2 b g1 g2 => ?_) (hm.rel k m (memR _ hk).1)
        have ho : Own R ρ b := ⟨k, m, v2, hk, g1, g2⟩
        exact hs.block b (hm.old b (ownR b ho)).1 fun hc => apartR b ((hKp b).2 (.inr ho)) hc
    · rcases List.mem_append.1 h1 with h1 | h1 <;> rcases List.mem_append.1 h2 with h2 | h2
      · obtain ⟨j, m0, q1, rfl, _⟩ := renMs_mem h1
        obtain ⟨j', m0', q2, rfl, _⟩ := renMs_mem h2
        exact hm'.apart j m0 j' m0' v1 v2 b q1 q2 (fun e => hne (by rw [e])) (back j v1 (leftOK_get hM' j m0 q1).1 g1) (back j' v2 (leftOK_get hM' j' m0' q2).1 g2) g3 g4
      · obtain ⟨j, m0, q1, rfl, _⟩ := renMs_mem h1
        obtain ⟨v3, e1, e2⟩ := nameR k' m' h2
        rw [g2] at e2; cases e2
        exact (hm'.old b ⟨j, m0, v1, q1, back j v1 (leftOK_get hM' j m0 q1).1 g1, g3⟩).2 ((hKp b).2 (.inr ⟨k', m', v2, h2, e1, g4⟩))
      · obtain ⟨j, m0, q1, rfl, _⟩ := renMs_mem h2
        obtain ⟨v3, e1, e2⟩ := nameR k m h1
        rw [g1] at e2; cases e2
        exact (hm'.old b ⟨j, m0, v2, q1, back j v2 (leftOK_get hM' j m0 q1).1 g2, g4⟩).2 ((hKp b).2 (.inr ⟨k, m, v1, h1, e1, g3⟩))
      · obtain ⟨v3, e1, e2⟩ := nameR k m h1
        rw [g1] at e2; cases e2
        obtain ⟨v4, e3, e4⟩ := nameR k' m' h2
        rw [g2] at e4; cases e4
        exact hm.apart k m k' m' v1 v2 b (memR _ h1).1 (memR _ h2).1 hne e1 e3 g3 g4
    · rcases (ownNew b).1 hb with h | h
      · exact ⟨(hm'.old b h).1, fun hkb => (hm'.old b h).2 ((hKp b).2 (.inl hkb))⟩
      · exact ⟨Nat.lt_of_lt_of_le (hm.old b (ownR b h)).1 hs.size, (hm.old b (ownR b h)).2⟩
  have e0 : appM M κ (.give ks (renMs ks κ M') nn) = renMs ks κ M' ++ R := by subst hR; rfl
  refine ⟨ρ2, ?_, ?_, ?_, fun k hk => ?_⟩
  · rw [e0]; exact hst
  · rw [e0]; exact hmem
  · rw [e0]; exact ren_up hset hup r hr hgr
  · have hk : k < κ ∨ κ + nn ≤ k := hk
    rw [hρ2, if_neg (by omega)]

end Go.Gs
