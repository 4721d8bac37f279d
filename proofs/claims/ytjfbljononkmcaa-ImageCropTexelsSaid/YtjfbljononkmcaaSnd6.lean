/- Slices cut, made, built; lengths; least and greatest; append. -/
import Derived.Test.YtjfbljononkmcaaSnd5
namespace Go.Gs

theorem takeOpt_elim {o : Option Operand} {l : List SV} {d : Int} {K : Int → List SV → Prop} (h : takeOpt o l d K) :
    ∃ n r, K n r ∧ ∀ {S Pm : Nat → Prop} {ρ : Names} {w : World} (ev : Operand → Value) (rest : List Value), Gs S Pm ρ w l ((optL o).map ev ++ rest) →
      Gs S Pm ρ w r rest ∧ ((o = none ∧ n = d) ∨ ∃ x k, o = some x ∧ ev x = .int k n) := by
  unfold takeOpt at h
  split at h
  · exact ⟨_, _, h, fun ev rest hg => ⟨by simpa [optL] using hg, .inl ⟨rfl, rfl⟩⟩⟩
  · rename_i x
    split at h
    · rename_i k n r
      refine ⟨_, _, h, fun ev rest hg => ?_⟩
      have hg : Gs _ _ _ _ _ (ev x :: rest) := hg
      exact ⟨hg.tail, .inr ⟨x, k, rfl, hg.head.val_inv⟩⟩
    · exact h.elim

theorem bounds_run {P : Program} {w : World} {len cap : Nat} {lo hi mx : Option Operand} {ev : Operand → Value} {l h m : Int} (hok : optOK hi mx = true)
    (hlo : (lo = none ∧ l = 0) ∨ ∃ x k, lo = some x ∧ ev x = .int k l) (hhi : (hi = none ∧ h = len) ∨ ∃ x k, hi = some x ∧ ev x = .int k h)
    (hmx : (mx = none ∧ m = len) ∨ ∃ x k, mx = some x ∧ ev x = .int k m) (h0 : 0 ≤ l) (h1 : l ≤ h) (h2 : h ≤ m) (h3 : m ≤ len) (h4 : len ≤ cap) :
    ∃ q : Nat, (Instr.sliceBounds true len cap (lo.map ev) (hi.map ev) (mx.map ev)).run P w = .ok (l.toNat, h.toNat, q) w ∧ h.toNat ≤ q ∧ q ≤ cap := by
  have e1 : (h.toNat : Int) = h := Int.toNat_of_nonneg (by omega)
  have e2 : (m.toNat : Int) = m := Int.toNat_of_nonneg (by omega)
  rcases hmx with ⟨rfl, rfl⟩ | ⟨xm, km, rfl, em⟩
  · rcases hhi with ⟨rfl, rfl⟩ | ⟨xh, kh, rfl, eh⟩
    · rcases hlo with ⟨rfl, rfl⟩ | ⟨xl, kl, rfl, el⟩
      · exact ⟨cap, by simp [Instr.sliceBounds], by simp; omega, Nat.le_refl _⟩
      · refine ⟨cap, ?_, by simp; omega, Nat.le_refl _⟩
        simp [Instr.sliceBounds, el, run_sliceBound w kl l len _ h0 (by omega)]
    · rcases hlo with ⟨rfl, rfl⟩ | ⟨xl, kl, rfl, el⟩
      · refine ⟨cap, ?_, by omega, Nat.le_refl _⟩
        simp [Instr.sliceBounds, eh, run_sliceBound w kh h cap _ (by omega) (by omega)]
      · refine ⟨cap, ?_, by omega, Nat.le_refl _⟩
        simp [Instr.sliceBounds, el, eh, run_sliceBound w kh h cap _ (by omega) (by omega), run_sliceBound w kl l h.toNat _ h0 (by omega)]
  · rcases hhi with ⟨rfl, rfl⟩ | ⟨xh, kh, rfl, eh⟩
    · simp [optOK] at hok
    · rcases hlo with ⟨rfl, rfl⟩ | ⟨xl, kl, rfl, el⟩
      · refine ⟨m.toNat, ?_, by omega, by omega⟩
        simp [Instr.sliceBounds, eh, em, run_sliceBound w km m cap _ (by omega) (by omega), run_sliceBound w kh h m.toNat _ (by omega) (by omega)]
      · refine ⟨m.toNat, ?_, by omega, by omega⟩
        simp [Instr.sliceBounds, el, eh, em, run_sliceBound w km m cap _ (by omega) (by omega), run_sliceBound w kh h m.toNat _ (by omega) (by omega), run_sliceBound w kl l h.toNat _ h0 (by omega)]

/-- A part of a slice that is read. -/
theorem sub_d {S : Nat → Prop} {w : World} {α : Type} {enc : α → List SV} {xs : List α} {a : Option Addr} {len cap : Nat} (hd : D S w (.sl enc xs) (.slice a len cap)) {sz : Nat} (hsz : ∀ x ∈ xs, (enc x).length = sz)
    {l h : Nat} (hlh : l ≤ h) (hh : h ≤ xs.length) {q : Nat} (hq : h ≤ q) (hqc : q ≤ cap) :
    D S w (.sl enc ((xs.drop l).take (h - l))) (sliced a l h q sz) := by
  have hlen : ((xs.drop l).take (h - l)).length = h - l := by simp; omega
  have hmem : ∀ x ∈ (xs.drop l).take (h - l), x ∈ xs := fun x hx => List.mem_of_mem_drop (List.mem_of_mem_take hx)
  rcases hd.sl_inv with ⟨rfl, hv⟩ | ⟨sz', b, o, cap', c, hv, hb, hS, hl48, hcap, hesz, hc, he⟩
  · cases hv
    have : h = 0 := by simpa using hh
    subst this
    have : l = 0 := by omega
    subst this
    have : q = 0 := by omega
    subst this
    exact .nil enc
  · cases hv
    have hix : ∀ i x, ((xs.drop l).take (h - l))[i]? = some x → xs[l + i]? = some x ∧ i < h - l := by
      intro i x hx
      rw [List.getElem?_take] at hx
      split at hx
      · exact ⟨by simpa using hx, by assumption⟩
      · cases hx
    have hs : 0 < h - l → sz' = sz := fun hp => by
      have h1 := List.getElem?_eq_getElem (show l < xs.length by omega)
      have h2 := List.mem_of_getElem? h1
      rw [← hesz _ h2, ← hsz _ h2]
    unfold sliced
    by_cases hql : q = l
    · rw [if_pos hql]
      have h0 : h - l = 0 := by omega
      have := D.sl (S := S) (w := w) enc ((xs.drop l).take (h - l)) sz' b o (q - l) c hb hS (by omega) (by omega) (fun x hx => hesz x (hmem x hx)) (fun i j hi => by omega) (fun i j x s hx => by
        have := (hix i x hx).2; omega)
      rwa [hlen] at this
    · rw [if_neg hql]
      simp only [Option.map_some, addr_add]
      have := D.sl (S := S) (w := w) enc ((xs.drop l).take (h - l)) sz' b (o + l * sz) (q - l) (fun i j => c (l + i) j) hb hS (by omega) (by omega) (fun x hx => hesz x (hmem x hx)) (fun i j hi hj => by
        have h5 := hc (l + i) j (by omega) hj
        rw [Nat.add_mul, hs (by omega)] at h5
        rw [hs (by omega), show o + l * sz + i * sz + j = o + (l * sz + i * sz) + j by omega]
        exact h5) (fun i j x s hx hs' => he (l + i) j x s (hix i x hx).1 hs')
      rwa [hlen] at this

theorem own_d {Keep : Nat → Prop} {M : List (Nat × Mem)} {ρ : Names} {w : World} (hm : MemOK Keep M ρ w) {k : Nat} {T : TypeId} {α : Type} {enc : α → List SV} {sz : Nat} {xs : List α}
    (hk : (k, Mem.arr T enc sz xs) ∈ M) {S : Nat → Prop} (hS : ∀ b, S b → Keep b ∨ Own M ρ b) (hSk : ∀ v b, ρ k = some v → blkOf v = some b → ¬ S b) {v : Value} (hv : ρ k = some v) : D S w (.sl enc xs) v := by
  obtain ⟨v', cells, hρ, hown, hlen, hone, hesz, hcells⟩ := hm.rel k _ hk
  rw [hv] at hρ; cases hρ
  rcases hown.2 with ⟨rfl, h0⟩ | ⟨g, cap, cur, rfl, _, hheap, hnc, hcm, hcs, htake⟩
  · have : xs = [] := List.eq_nil_of_length_eq_zero h0
    subst this; exact .nil enc
  · have hcl := hown.1
    have hc : ∀ i j, i < xs.length → j < sz → ∃ u, cells[i * sz + j]? = some u := fun i j hi hj => by
      have h1 : i * sz + sz ≤ xs.length * sz := by
        have := Nat.mul_le_mul_right sz (Nat.succ_le_of_lt hi)
        rw [Nat.succ_mul] at this; exact this
      exact ⟨_, List.getElem?_eq_getElem (show i * sz + j < cells.length by omega)⟩
    refine .sl enc xs sz g 0 cap (fun i j => (cells[i * sz + j]?).getD undef) (hm.old g ⟨k, _, _, hk, hv, rfl⟩).1 (hSk _ g hv rfl) (by omega) hnc hesz ?_ ?_
    · intro i j hi hj
      obtain ⟨u, hu⟩ := hc i j hi hj
      rw [hu]
      refine ⟨?_, hone u (List.mem_of_getElem? hu)⟩
      have := own_cell hheap htake hu
      simpa [Nat.zero_add] using this
    · intro i j x s hx hs
      obtain ⟨u, hu, hd⟩ := hcells i j x s hx hs
      rw [hu]
      exact hd.mono (Nat.le_refl _) fun b _ hb => ⟨fun h => hb (hS b h), rfl⟩

theorem slice_sound {P : Program} {Γ : List (TypeId × TI)} (hT : TOK P Γ) {t : TypeId} {x : Operand} {lo hi mx : Option Operand} {svs : List SV} {lm : Nat → Option Mem} {κ : Nat} {K : SV → MD → Prop}
    (h : sliceV Γ t lo hi mx svs lm K) : ∃ r md, K r md ∧ OpOK P (.slice t x lo hi mx) svs lm κ r md := by
  unfold sliceV at h
  replace h := guardB_elim h; obtain ⟨hok, h⟩ := h
  split at h
  · rename_i s rest
    replace h := withT_elim h; obtain ⟨i, hi', h⟩ := h
    have hk := (hT t i hi').kind
    split at h
    · rename_i e hkind
      rw [hkind] at hk
      have helem : P.elem t = e := by have hk : P.underlying t = some (.slice e) := hk; simp [Program.elem, hk]
      have hk' : P.underlying t = some (.slice (P.elem t)) := by rw [helem]; exact hk
      replace h := withT_elim h; obtain ⟨j, hj, h⟩ := h
      have hsz := (hT e j hj).size
      have run : ∀ {o : Oper} (_ : o.op = .slice t x lo hi mx) {a : Act} {w : World} {ad : Option Addr} {len cap l h q : Nat}, a.eval x = .slice ad len cap →
          (Instr.sliceBounds true len cap (lo.map a.eval) (hi.map a.eval) (mx.map a.eval)).run P w = .ok (l, h, q) w → (execOp a.eval o).run P w = .ok (.value (sliced ad l h q j.sz)) w := by
        intro o ho a w ad len cap l h q hx hb
        simp [execOp, ho, hx, run_sliceAt_slice (h := hk'), run_slice_any (ht := hk'), hb, helem, hsz]
      split at h
      · rename_i α enc xs
        obtain ⟨l, r1, h, hl⟩ := takeOpt_elim h
        obtain ⟨hh, r2, h, hh'⟩ := takeOpt_elim h
        obtain ⟨m, r3, h, hm'⟩ := takeOpt_elim h
        obtain ⟨⟨h0, h1, h2, h3⟩, hes⟩ := h.ob
        refine ⟨_, _, h.go, .pure fun o ho S Pm ρ a w hgs => ?_⟩
        have hgs : Gs S Pm ρ w (SV.sl enc xs :: rest) (a.eval x :: ((optL lo ++ (optL hi ++ optL mx)).map a.eval)) := hgs
        simp only [List.map_append] at hgs
        obtain ⟨g1, e1⟩ := hl a.eval _ hgs.tail
        obtain ⟨g2, e2⟩ := hh' a.eval _ g1
        obtain ⟨g3, e3⟩ := hm' a.eval [] (by simpa using g2)
        have hd := hgs.head.sl_inv
        have key : ∃ ad cap, a.eval x = .slice ad xs.length cap ∧ xs.length ≤ cap := by
          rcases hd.sl_inv with ⟨rfl, hv⟩ | ⟨_, b, o', cap, _, hv, _, _, _, hc, _⟩
          · exact ⟨none, 0, hv, by simp⟩
          · exact ⟨_, cap, hv, hc⟩
        obtain ⟨ad, cap, hx, hcap⟩ := key
        obtain ⟨q, hb, hq, hqc⟩ := bounds_run (P := P) (w := w) (len := xs.length) (cap := cap) hok e1 e2 e3 h0 h1 h2 h3 hcap
        refine ⟨_, run ho hx hb, .d _ _ ?_⟩
        rw [hx] at hd
        have := sub_d hd hes (l := l.toNat) (h := hh.toNat) (by omega) (by omega) hq hqc
        rwa [show hh.toNat - l.toNat = (hh - l).toNat by omega] at this
      · rename_i k
        split at h
        · rename_i T α enc sz xs hlk
          replace h := guardB_elim h; obtain ⟨hs, h⟩ := h
          have hs := Nat.eq_of_beq_eq_true hs
          subst hs
          obtain ⟨l, r1, h, hl⟩ := takeOpt_elim h
          obtain ⟨hh, r2, h, hh'⟩ := takeOpt_elim h
          obtain ⟨m, r3, h, hm'⟩ := takeOpt_elim h
          obtain ⟨h0, h1, h2, h3⟩ := h.ob
          refine ⟨_, _, h.go, fun o ho Keep M ρ a w hlm hm _ _ hgs => ?_⟩
          have hmem := mem_lookM (hlm k _ hlk)
          have hgs : Gs (fun b => Keep b ∨ Own M ρ b) (Own M ρ) ρ w (SV.own k :: rest) (a.eval x :: ((optL lo ++ (optL hi ++ optL mx)).map a.eval)) := hgs
          simp only [List.map_append] at hgs
          obtain ⟨g1, e1⟩ := hl a.eval _ hgs.tail
          obtain ⟨g2, e2⟩ := hh' a.eval _ g1
          obtain ⟨g3, e3⟩ := hm' a.eval [] (by simpa using g2)
          obtain ⟨hv, _⟩ := hgs.head.own_inv
          obtain ⟨hs, hmo⟩ := hm.let_go (M1 := dropM M k) (fun x hx => mem_dropM x hx) (pairwise_dropM hm.keys)
          have hd : D (fun b => Keep b ∨ Own (dropM M k) ρ b) w (.sl enc xs) (a.eval x) := own_d hm hmem
            (fun b hb => hb.imp id fun ⟨k', m', v', h1, h2, h3⟩ => ⟨k', m', v', mem_dropM _ h1, h2, h3⟩)
            (fun v b hv' hb hSb => by
              rcases hSb with hSb | ⟨k', m', v', h4, h5, h6⟩
              · exact (hm.old b ⟨k, _, v, hmem, hv', hb⟩).2 hSb
              · exact hm.apart k _ k' m' v v' b hmem (mem_dropM _ h4) (Ne.symm (dropM_ne hm.keys _ h4)) hv' h5 hb h6) hv
          obtain ⟨v', cells, hρ, hown, hlen, hone, hesz, hcells⟩ := hm.rel k _ hmem
          have key : ∃ ad cap, a.eval x = .slice ad xs.length cap ∧ xs.length ≤ cap := by
            rcases hd.sl_inv with ⟨rfl, hv⟩ | ⟨_, b, o', cap, _, hv, _, _, _, hc, _⟩
            · exact ⟨none, 0, hv, by simp⟩
            · exact ⟨_, cap, hv, hc⟩
          obtain ⟨ad, cap, hx, hcap⟩ := key
          obtain ⟨q, hb, hq, hqc⟩ := bounds_run (P := P) (w := w) (len := xs.length) (cap := cap) hok e1 e2 e3 h0 h1 h2 h3 hcap
          refine Does.value (run ho hx hb) ⟨ρ, hs, hmo, .d _ _ ?_, fun _ _ => rfl⟩
          rw [hx] at hd
          have := sub_d hd hesz (l := l.toNat) (h := hh.toNat) (by omega) (by omega) hq hqc
          rwa [show hh.toNat - l.toNat = (hh - l).toNat by omega] at this
        · exact h.elim
      · exact h.elim
    · exact h.elim
  · exact h.elim

end Go.Gs
