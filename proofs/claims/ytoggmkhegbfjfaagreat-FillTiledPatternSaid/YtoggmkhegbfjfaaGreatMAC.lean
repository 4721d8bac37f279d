/- The operations on memory: what is left to be shown is enough. -/
import Derived.Test.YtoggmkhegbfjfaaGreatMAB
namespace Go.Gs

theorem cell_row {w : World} {b : Nat} {vs : List Value} {T : TypeId} (h : w.heap[b]? = some (.cells vs.toArray T (0, 0))) (j : Nat) : w.cell? ⟨b, j, none⟩ = vs[j]? := by
  rw [cell_of_row w b j _ T _ h]; simp

theorem own_row {w : World} {T : TypeId} {sz : Nat} {v : Value} {n : Nat} {cells : List Value} {b len cap : Nat} (hv : v = .slice (some ⟨b, 0, none⟩) len cap)
    (h : w.ownsRow 0 T sz v n cells) : len = n ∧ ∃ cur : Array Value, w.heap[b]? = some (.cells cur T (0, 0)) ∧ n ≤ cap ∧ cap ≤ maxLen ∧ cur.size = cap * sz ∧ cur.toList.take (n * sz) = cells := by
  rcases h.2 with ⟨h1, _⟩ | ⟨g, cap', cur, h1, _, h2, h3, h4, h5, h6⟩
  · rw [h1] at hv; cases hv
  · rw [h1] at hv; cases hv; exact ⟨rfl, cur, h2, h3, h4, h5, h6⟩

theorem own_cell {w : World} {b : Nat} {cur : Array Value} {T : TypeId} {n : Nat} {cells : List Value} (h : w.heap[b]? = some (.cells cur T (0, 0))) (ht : cur.toList.take n = cells)
    {j : Nat} {u : Value} (hu : cells[j]? = some u) : w.cell? ⟨b, j, none⟩ = some u := by
  rw [cell_of_row w b j _ T _ h]
  rw [← ht, List.getElem?_take] at hu
  split at hu
  · simpa using hu
  · cases hu

/-- The cells of one element of an owned row. -/
theorem elem_cells {S : Nat → Prop} {w : World} {α : Type} {enc : α → List SV} {sz : Nat} {xs : List α} {cells : List Value} (hsz : ∀ x ∈ xs, (enc x).length = sz)
    (hg : ∀ (i j : Nat) x (s : SV), xs[i]? = some x → (enc x)[j]? = some s → ∃ u, cells[i * sz + j]? = some u ∧ D S w s u) {i : Nat} {x : α} (hx : xs[i]? = some x)
    {Pm : Nat → Prop} {ρ : Names} : Gs S Pm ρ w (enc x) ((cells.drop (i * sz)).take sz) := by
  have hlen := hsz x (List.mem_of_getElem? hx)
  refine ⟨?_, fun j s v h1 h2 => ?_⟩
  · have h : (cells.drop (i * sz)).take sz = (List.range sz).map fun j => (cells[i * sz + j]?).getD undef := by
      apply List.ext_getElem?
      intro j
      by_cases hj : j < sz
      · obtain ⟨u, hu, _⟩ := hg i j x ((enc x)[j]'(by omega)) hx (by simp [hlen, hj])
        simp [hj, hu]
      · simp [List.getElem?_take, hj]
    rw [h]; simp [hlen]
  · rw [List.getElem?_take] at h2
    split at h2
    · obtain ⟨u, hu, hd⟩ := hg i j x s hx h1
      simp only [List.getElem?_drop] at h2
      rw [hu] at h2; cases h2
      exact .d _ _ hd
    · cases h2

theorem elem_cellsG {S Pm : Nat → Prop} {ρ : Names} {w : World} {sz : Nat} {xs : List (List SV)} {cells : List Value} (hsz : ∀ x ∈ xs, x.length = sz)
    (hg : ∀ (i j : Nat) x (s : SV), xs[i]? = some x → x[j]? = some s → ∃ u, cells[i * sz + j]? = some u ∧ G S Pm ρ w s u) {i : Nat} {x : List SV} (hx : xs[i]? = some x) : Gs S Pm ρ w x ((cells.drop (i * sz)).take sz) := by
  have hlen := hsz x (List.mem_of_getElem? hx)
  refine ⟨?_, fun j s v h1 h2 => ?_⟩
  · have h : (cells.drop (i * sz)).take sz = (List.range sz).map fun j => (cells[i * sz + j]?).getD undef := by
      apply List.ext_getElem?
      intro j
      by_cases hj : j < sz
      · obtain ⟨u, hu, _⟩ := hg i j x (x[j]'(by omega)) hx (by simp [hlen, hj])
        simp [hj, hu]
      · simp [List.getElem?_take, hj]
    rw [h]; simp [hlen]
  · rw [List.getElem?_take] at h2
    split at h2
    · obtain ⟨u, hu, hd⟩ := hg i j x s hx h1
      simp only [List.getElem?_drop] at h2
      rw [hu] at h2; cases h2
      exact hd
    · cases h2

theorem load_sound {P : Program} {Γ : List (TypeId × TI)} (hT : TOK P Γ) {t : TypeId} {x : Operand} {s : SV} {lm : Nat → Option Mem} {κ : Nat} {K : SV → MD → Prop} (h : loadV Γ t s lm K) :
    ∃ r, K r .none ∧ OpOK P (.load t x) [s] lm κ r .none := by
  unfold loadV at h
  replace h := withT_elim h; obtain ⟨i, hi, h⟩ := h
  have hTi := hT t i hi
  have run : ∀ {o : Oper} (_ : o.op = .load t x) {a : Act} {w : World} {b off : Nat} {v : Value}, a.eval x = .pointer (some ⟨b, off, none⟩) → (loadVar t ⟨b, off, none⟩).run P w = .ok v w →
      (execOp a.eval o).run P w = .ok (.value v) w := by
    intro o ho a w b off v h1 h2
    simp [execOp, ho, h1, Instr.loadAt, Instr.sureAddr, h2]
  split at h
  · rename_i k off
    split at h
    · rename_i T cs hlk
      replace h := guardB_elim h; obtain ⟨hle, h⟩ := h
      have hle := Nat.le_of_ble_eq_true hle
      obtain ⟨r, hK, hr⟩ := mkV_elim h
      refine ⟨r, hK, .read fun o ho Keep M ρ a w hlm hm hgs => ?_⟩
      obtain ⟨b, vs, hρ, hheap, hlen, _, hcells⟩ := hm.rel k _ (hlm k _ hlk)
      obtain ⟨b', hρ', hx⟩ := (Gs.head hgs).loc_inv
      rw [hρ] at hρ'; cases hρ'
      have hg : Gs (fun b => Keep b ∨ Own M ρ b) (Own M ρ) ρ w (cs.drop off) (vs.drop off) := Gs.drop off ⟨hlen, hcells⟩
      obtain ⟨v, h1, h2⟩ := load_run hTi (b := b) (o := off) hg (fun j v hv => by rw [cell_row hheap]; simpa using hv) (by simp; omega) hr
      exact ⟨v, run ho hx h1, h2⟩
    · exact h.elim
  · rename_i cs
    replace h := guardB_elim h; obtain ⟨hle, h⟩ := h
    have hle := Nat.le_of_ble_eq_true hle
    obtain ⟨r, hK, hr⟩ := mkV_elim h
    refine ⟨r, hK, .pure fun o ho S Pm ρ a w hgs => ?_⟩
    obtain ⟨b, off, c, hx, _, _, hc, hd⟩ := (Gs.head hgs).ptr_inv
    have hg : Gs S Pm ρ w cs ((List.range cs.length).map c) := ⟨by simp, fun j s v h1 h2 => by
      have hj : j < cs.length := (List.getElem?_eq_some_iff.1 h1).1
      simp [hj] at h2; subst h2
      exact .d _ _ (hd j s h1)⟩
    obtain ⟨v, h1, h2⟩ := load_run hTi (b := b) (o := off) hg (fun j v hv => by
      have hj : j < cs.length := by have := (List.getElem?_eq_some_iff.1 hv).1; simpa using this
      simp [hj] at hv; subst hv
      exact (hc j hj).1) hle hr
    exact ⟨v, run ho hx h1, h2⟩
  · rename_i cs
    replace h := guardB_elim h; obtain ⟨hle, h⟩ := h
    have hle := Nat.le_of_ble_eq_true hle
    obtain ⟨r, hK, hr⟩ := mkV_elim h
    refine ⟨r, hK, .pure fun o ho S Pm ρ a w hgs => ?_⟩
    obtain ⟨b, off, c, hx, _, _, hc, hd⟩ := (Gs.head hgs).dptr_inv
    have hg : Gs S Pm ρ w cs ((List.range cs.length).map c) := ⟨by simp, fun j s v h1 h2 => by
      have hj : j < cs.length := (List.getElem?_eq_some_iff.1 h1).1
      simp [hj] at h2; subst h2
      exact .d _ _ (hd j s h1)⟩
    obtain ⟨v, h1, h2⟩ := load_run hTi (b := b) (o := off) hg (fun j v hv => by
      have hj : j < cs.length := by have := (List.getElem?_eq_some_iff.1 hv).1; simpa using this
      simp [hj] at hv; subst hv
      exact (hc j hj).1) hle hr
    exact ⟨v, run ho hx h1, h2⟩
  · rename_i k sz n off
    split at h
    · rename_i T α enc sz' xs hlk
      replace h := guardB_elim h; obtain ⟨hsz, h⟩ := h
      replace h := guardB_elim h; obtain ⟨hle, h⟩ := h
      have hsz := Nat.eq_of_beq_eq_true hsz
      subst hsz
      have hle := Nat.le_of_ble_eq_true hle
      obtain ⟨h0, h1⟩ := h.ob
      have hlt : n.toNat < xs.length := by omega
      have hx := List.getElem?_eq_getElem hlt
      obtain ⟨r, hK, hr⟩ := mkV_elim (h.go _ hx)
      refine ⟨r, hK, .read fun o ho Keep M ρ a w hlm hm hgs => ?_⟩
      obtain ⟨v, cells, hρ, hown, _, _, hesz, hcells⟩ := hm.rel k _ (hlm k _ hlk)
      obtain ⟨b, len, cap, hρ', hxv⟩ := (Gs.head hgs).eloc_inv
      rw [hρ] at hρ'; cases hρ'
      obtain ⟨_, cur, hheap, _, _, _, htake⟩ := own_row rfl hown
      have hg := Gs.drop off (elem_cells hesz hcells hx (Pm := Own M ρ) (ρ := ρ))
      have hl := hesz _ (List.mem_of_getElem? hx)
      obtain ⟨v, h1, h2⟩ := load_run hTi (b := b) (o := n.toNat * sz + off) hg (fun j u hu => by
        simp only [List.getElem?_drop, List.getElem?_take] at hu
        split at hu
        · refine own_cell hheap htake ?_
          rw [← hu]; congr 1; omega
        · cases hu) (by simp; omega) hr
      exact ⟨v, run ho hxv h1, h2⟩
    · rename_i T sz' xs hlk
      replace h := guardB_elim h; obtain ⟨hsz, h⟩ := h
      replace h := guardB_elim h; obtain ⟨hle, h⟩ := h
      have hsz := Nat.eq_of_beq_eq_true hsz
      subst hsz
      have hle := Nat.le_of_ble_eq_true hle
      obtain ⟨h0, h1⟩ := h.ob
      have hlt : n.toNat < xs.length := by omega
      have hx := List.getElem?_eq_getElem hlt
      obtain ⟨r, hK, hr⟩ := mkV_elim (h.go _ hx)
      refine ⟨r, hK, .read fun o ho Keep M ρ a w hlm hm hgs => ?_⟩
      obtain ⟨v, cells, hρ, hown, _, _, hesz, hcells⟩ := hm.rel k _ (hlm k _ hlk)
      obtain ⟨b, len, cap, hρ', hxv⟩ := (Gs.head hgs).eloc_inv
      rw [hρ] at hρ'; cases hρ'
      obtain ⟨_, cur, hheap, _, _, _, htake⟩ := own_row rfl hown
      have hg := Gs.drop off (elem_cellsG hesz hcells hx)
      have hl := hesz _ (List.mem_of_getElem? hx)
      obtain ⟨v, h1, h2⟩ := load_run hTi (b := b) (o := n.toNat * sz + off) hg (fun j u hu => by
        simp only [List.getElem?_drop, List.getElem?_take] at hu
        split at hu
        · refine own_cell hheap htake ?_
          rw [← hu]; congr 1; omega
        · cases hu) (by simp; omega) hr
      exact ⟨v, run ho hxv h1, h2⟩
    · exact h.elim
  · exact h.elim

theorem Gs.stp {Keep W W' : Nat → Prop} {ρ ρ' : Names} {w w' : World} (h : Stp W W' ρ ρ' w w') {cs : List SV} {vs : List Value}
    (hg : Gs (fun b => Keep b ∨ W b) W ρ w cs vs) : Gs (fun b => Keep b ∨ W' b) W' ρ' w' cs vs := hg.mono' fun _ _ h' => h'.stp h

/-- A block is laid. -/
theorem alloc_next {Keep : Nat → Prop} {M : List (Nat × Mem)} {ρ : Names} {w : World} (hm : MemOK Keep M ρ w) {κ : Nat} (hκ : ρ κ = none) (hκM : ∀ m, (κ, m) ∉ M) (m : Mem) (o : Obj) (v : Value) (ho : SameOut w (w.alloc o))
    (hv : blkOf v = some w.heap.size)
    (hrel : Stp (Own M ρ) (Own ((κ, m) :: M) (upd ρ κ v)) ρ (upd ρ κ v) w (w.alloc o) →
      MRel (fun b => Keep b ∨ Own ((κ, m) :: M) (upd ρ κ v) b) (Own ((κ, m) :: M) (upd ρ κ v)) (upd ρ κ v) (w.alloc o) κ m) :
    Stp (Own M ρ) (Own ((κ, m) :: M) (upd ρ κ v)) ρ (upd ρ κ v) w (w.alloc o) ∧ MemOK Keep ((κ, m) :: M) (upd ρ κ v) (w.alloc o) :=
  hm.grow (fun _ h => h) hm.keys hκ hκM v m (w.alloc o) rfl rfl ho (by simp) (fun b hb _ => heap_alloc_old w o b hb)
    (fun k m v b h1 h2 h3 => heap_alloc_old w o b (hm.old b ⟨k, m, v, h1, h2, h3⟩).1)
    (fun b hb => by
      rw [hv] at hb; cases hb
      exact ⟨.inr (Nat.le_refl _), by simp, fun k m v' h1 h2 h3 => by have := (hm.old _ ⟨k, m, v', h1, h2, h3⟩).1; omega⟩) hrel

theorem After.push {Keep : Nat → Prop} {M : List (Nat × Mem)} {ρ : Names} {w w' : World} {κ : Nat} {s : SV} {m : Mem} {v u : Value}
    (h : Stp (Own M ρ) (Own ((κ, m) :: M) (upd ρ κ u)) ρ (upd ρ κ u) w w' ∧ MemOK Keep ((κ, m) :: M) (upd ρ κ u) w')
    (hg : G (fun b => Keep b ∨ Own ((κ, m) :: M) (upd ρ κ u) b) (Own ((κ, m) :: M) (upd ρ κ u)) (upd ρ κ u) w' s v) : After Keep M ρ w κ s (.push m) v w' :=
  ⟨upd ρ κ u, h.1, h.2, hg, fun k hk => upd_ne (by
    rcases hk with hk | hk
    · omega
    · simp only [appK] at hk; omega)⟩

/-- A box is laid round cells. -/
theorem box_after {Keep : Nat → Prop} {M : List (Nat × Mem)} {ρ : Names} {w : World} (hm : MemOK Keep M ρ w) {κ : Nat} (hκ : ρ κ = none) (hκM : ∀ m, (κ, m) ∉ M) (T : TypeId) {cs : List SV} {vs : List Value}
    (hg : Gs (fun b => Keep b ∨ Own M ρ b) (Own M ρ) ρ w cs vs) (h1 : ∀ v ∈ vs, v.oneCell' = true) :
    After Keep M ρ w κ (.loc κ 0) (.push (.box T cs)) (.pointer (some ⟨w.heap.size, 0, none⟩)) (w.alloc (.cells vs.toArray T)) :=
  After.push (u := .pointer (some ⟨w.heap.size, 0, none⟩)) (alloc_next hm hκ hκM _ _ _ (.cells _ _ _) rfl fun hs =>
    ⟨w.heap.size, vs, upd_same, heap_alloc_new w _, hg.1, h1, (hg.stp hs).2⟩) (.loc _ _ _ upd_same)

theorem alloc_sound {P : Program} {Γ : List (TypeId × TI)} (hT : TOK P Γ) {e : TypeId} {svs : List SV} {lm : Nat → Option Mem} {κ : Nat} {K : SV → MD → Prop}
    (h : withT Γ e fun i => K (.loc κ 0) (.push (.box e (vals i.zero)))) : ∃ r md, K r md ∧ OpOK P (.alloc e) svs lm κ r md := by
  replace h := withT_elim h; obtain ⟨i, hi, h⟩ := h
  obtain ⟨f, h1, h2, h3, z, h4, h5, h6, h7, h8⟩ := (hT e i hi).inf
  refine ⟨_, _, h, fun o ho Keep M ρ a w _ hm hκ hκM _ => ?_⟩
  replace hκ := hκ _ (Nat.le_refl _) (Nat.lt_succ_self _); replace hκM := hκM rfl
  refine Does.value (v := .pointer (some ⟨w.heap.size, 0, none⟩)) (w' := w.alloc (.cells i.zero.toArray e)) ?_ (box_after hm hκ hκM e (Gs.vals _) h8)
  have hz : z.cells = i.zero.toArray := by rw [← h5]
  simp [execOp, ho, Instr.alloc, zeroValue, typeInfo, h1, h4, newVar, newRow, hz]

theorem box_sound {P : Program} {e : TypeId} {x : Operand} {s : SV} {lm : Nat → Option Mem} {κ : Nat} {K : SV → MD → Prop}
    (h : guardB (cellsB (cellsOf s)) (K (.loc κ 0) (.push (.box e (cellsOf s))))) : ∃ r md, K r md ∧ OpOK P (.box e x) [s] lm κ r md := by
  replace h := guardB_elim h; obtain ⟨hc, h⟩ := h
  refine ⟨_, _, h, fun o ho Keep M ρ a w _ hm hκ hκM hgs => ?_⟩
  replace hκ := hκ _ (Nat.le_refl _) (Nat.lt_succ_self _); replace hκM := hκM rfl
  obtain ⟨h1, h2⟩ := cellsOf_g hc (Gs.head hgs)
  refine Does.value (v := .pointer (some ⟨w.heap.size, 0, none⟩)) (w' := w.alloc (.cells (a.eval x).cells e)) ?_ (by simpa using box_after hm hκ hκM e h1 h2)
  simp [execOp, ho, Instr.box, newVar, newRow]

theorem storeVar_run {P : Program} {t : TypeId} {i : TI} (hT : TOne P t i) {w : World} {b off : Nat} {T : TypeId} {cur : Array Value} (hheap : w.heap[b]? = some (.cells cur T (0, 0))) {v : Value}
    (hsz : v.cells.size = i.sz) (hle : off + i.sz ≤ cur.size) (h1 : ∀ u ∈ v.cells.toList, u.oneCell' = true) :
    (storeVar t ⟨b, off, none⟩ v).run P w = .ok () (w.setRow b (cur.toList.take off ++ v.cells.toList ++ cur.toList.drop (off + i.sz)).toArray) := by
  have := run_storeCells_at P b off T v.cells.toList 0 cur w hheap (by simp [hsz]; omega) h1
  simp only [Nat.add_zero, Array.length_toList, hsz] at this
  simp [storeVar, hT.size, hsz, this]

theorem After.set {Keep : Nat → Prop} {M : List (Nat × Mem)} {ρ : Names} {w w' : World} {κ k : Nat} {s : SV} {m : Mem} {v : Value}
    (h : Stp (Own M ρ) (Own (setM M k m) ρ) ρ ρ w w' ∧ MemOK Keep (setM M k m) ρ w')
    (hg : G (fun b => Keep b ∨ Own (setM M k m) ρ b) (Own (setM M k m) ρ) ρ w' s v) : After Keep M ρ w κ s (.set k m) v w' :=
  ⟨ρ, h.1, h.2, hg, fun _ _ => rfl⟩

theorem flats_mem {cs : List SV} (h : flat.flats cs = true) : ∀ (j : Nat) (s : SV), cs[j]? = some s → flat s = true := by
  induction cs with
  | nil => intro j s h1; simp at h1
  | cons c cs ih =>
    intro j s h1
    simp only [flat.flats] at h
    split at h
    · rename_i hc
      cases j with
      | zero => simp at h1; subst h1; exact hc
      | succ j => exact ih h j s (by simpa using h1)
    · cases h

theorem flat_d {S Pm : Nat → Prop} {ρ : Names} {w : World} {s : SV} (hs : flat s = true) {v : Value} (hg : G S Pm ρ w s v) : D S w s v := by
  induction hg with
  | d _ _ h => exact h
  | agg cs vs hl h ih =>
    have hf : flat.flats cs = true := hs
    exact .agg cs vs hl fun j s v h1 h2 => ih j s v h1 h2 (flats_mem hf j s h1)
  | ifc t s v h ih =>
    have hf : flat s = true := hs
    exact .ifc t s v (ih hf)
  | _ => simp [flat] at hs

theorem flats_d {cs : List SV} (h : flat.flats cs = true) {S Pm : Nat → Prop} {ρ : Names} {w : World} {vs : List Value} (hg : Gs S Pm ρ w cs vs) :
    ∀ (j : Nat) (s : SV) (v : Value), cs[j]? = some s → vs[j]? = some v → D S w s v := fun j s v h1 h2 => flat_d (flats_mem h j s h1) (hg.2 j s v h1 h2)

theorem take_splice (cur new : List Value) (o N : Nat) (h : o + new.length ≤ N) (hN : N ≤ cur.length) :
    (cur.take o ++ new ++ cur.drop (o + new.length)).take N = (cur.take N).take o ++ new ++ (cur.take N).drop (o + new.length) := by
  have e1 : (cur.take o ++ new).length = o + new.length := by simp; omega
  rw [List.take_append, List.take_of_length_le (by omega), e1, List.take_take, Nat.min_eq_left (by omega), List.drop_take]

theorem store_sound {P : Program} {Γ : List (TypeId × TI)} (hT : TOK P Γ) {t : TypeId} {x y : Operand} {s v : SV} {lm : Nat → Option Mem} {κ : Nat} {K : SV → MD → Prop} (h : storeV Γ t s v lm K) :
    ∃ r md, K r md ∧ OpOK P (.store t x y) [s, v] lm κ r md := by
  unfold storeV at h
  replace h := withT_elim h; obtain ⟨i, hi, h⟩ := h
  have hTi := hT t i hi
  replace h := guardB_elim h; obtain ⟨hcell, h⟩ := h
  replace h := guardB_elim h; obtain ⟨hlen, h⟩ := h
  have hlen := Nat.eq_of_beq_eq_true hlen
  split at h
  · rename_i k off
    split at h
    · rename_i T cs hlk
      replace h := guardB_elim h; obtain ⟨hle, h⟩ := h
      have hle := Nat.le_of_ble_eq_true hle
      refine ⟨_, _, h, fun o ho Keep M ρ a w hlm hm _ _ hgs => ?_⟩
      have hmem := mem_lookM (hlm k _ hlk)
      obtain ⟨b, vs, hρ, hheap, hl, h1, hcells⟩ := hm.rel k _ hmem
      obtain ⟨b', hρ', hx⟩ := (Gs.head hgs).loc_inv
      rw [hρ] at hρ'; cases hρ'
      obtain ⟨hg, hone⟩ := cellsOf_g hcell (Gs.head (Gs.tail hgs))
      have hcl : (a.eval y).cells.toList.length = i.sz := by rw [hg.1, hlen]
      have hrun := storeVar_run hTi hheap (v := a.eval y) (off := off) (by simpa using hcl) (by simp; omega) hone
      refine Does.skip (w' := _) (by simp [execOp, ho, hx, Instr.storeAt, Instr.sureAddr, hrun]; rfl) ?_
      have hsp := splice_g off (⟨hl, hcells⟩ : Gs (fun b => Keep b ∨ Own M ρ b) (Own M ρ) ρ w cs vs) hg
      rw [hcl] at hsp
      refine After.set (hm.write _ hmem hρ rfl _ fun hs => ?_) (.d _ _ (.val _))
      refine ⟨b, _, hρ, by simpa using setRow_heap w b _ _ T _ hheap, (hsp.stp hs).1, fun u hu => ?_, (hsp.stp hs).2⟩
      simp only [List.mem_append] at hu
      rcases hu with (hu | hu) | hu
      · exact h1 u (List.mem_of_mem_take hu)
      · exact hone u hu
      · exact h1 u (List.mem_of_mem_drop hu)
    · exact h.elim
  · rename_i k sz n off
    split at h
    · rename_i T α enc sz' xs hlk
      replace h := guardB_elim h; obtain ⟨hsz, h⟩ := h
      replace h := guardB_elim h; obtain ⟨hle, h⟩ := h
      have hsz := Nat.eq_of_beq_eq_true hsz
      subst hsz
      have hle := Nat.le_of_ble_eq_true hle
      split at h
      rotate_left
      · obtain ⟨h0, h1⟩ := h.ob
        have hlt0 : n.toNat < xs.length := by omega
        have hx0 := List.getElem?_eq_getElem hlt0
        replace h := h.go _ hx0
        obtain ⟨zs, hzs⟩ : ∃ zs, zs = xs.map enc := ⟨_, rfl⟩
        have hzl : zs.length = xs.length := by rw [hzs, List.length_map]
        have hlt : n.toNat < zs.length := by omega
        have hx := List.getElem?_eq_getElem hlt
        have hxe : zs[n.toNat] = enc xs[n.toNat] := by subst hzs; simp
        rw [← hzs, ← hxe] at h
        obtain ⟨x', hx'⟩ : ∃ x', x' = splice (zs[n.toNat]) off (cellsOf v) := ⟨_, rfl⟩
        rw [← hx'] at h
        refine ⟨_, _, h, fun o ho Keep M ρ a w hlm hm _ _ hgs => ?_⟩
        have hmem := mem_lookM (hlm k _ hlk)
        obtain ⟨v0, cells, hρ, hown, hnl, hone0, hesz0, hcells0⟩ := hm.rel k _ hmem
        rw [← hzl] at hown hnl
        have hesz : ∀ x ∈ zs, x.length = sz := fun x hx => by
          rw [hzs] at hx
          obtain ⟨y, hy, rfl⟩ := List.mem_map.1 hx
          exact hesz0 y hy
        have hcells : ∀ (i j : Nat) (x : List SV) (s : SV), zs[i]? = some x → x[j]? = some s → ∃ u, cells[i * sz + j]? = some u ∧ G (fun b => Keep b ∨ Own M ρ b) (Own M ρ) ρ w s u := fun i j x s hx hs => by
          rw [hzs, List.getElem?_map] at hx
          cases hy : xs[i]? with
          | none => simp [hy] at hx
          | some y =>
            simp [hy] at hx
            subst hx
            obtain ⟨u, hu, hd⟩ := hcells0 i j y s hy hs
            exact ⟨u, hu, .d _ _ hd⟩
        obtain ⟨b, len, cap, hρ', hxv⟩ := (Gs.head hgs).eloc_inv
        rw [hρ] at hρ'; cases hρ'
        obtain ⟨hlen', cur, hheap, hnc, hcm, hcs, htake⟩ := own_row rfl hown
        obtain ⟨hg, hone⟩ := cellsOf_g hcell (Gs.head (Gs.tail hgs))
        have hcl : (a.eval y).cells.toList.length = i.sz := by rw [hg.1, hlen]
        have hl := hesz _ (List.mem_of_getElem? hx)
        have hmul : n.toNat * sz + sz ≤ zs.length * sz := by
          have := Nat.mul_le_mul_right sz (Nat.succ_le_of_lt hlt)
          rw [Nat.succ_mul] at this; exact this
        have hcurlen : zs.length * sz ≤ cur.toList.length := by simp [hcs]; exact Nat.mul_le_mul_right _ hnc
        have hrun := storeVar_run hTi hheap (v := a.eval y) (off := n.toNat * sz + off) (by simpa using hcl) (by simp at hcurlen; omega) hone
        refine Does.skip (w' := _) (by simp [execOp, ho, hxv, Instr.storeAt, Instr.sureAddr, hrun]; rfl) ?_
        have hsp := splice_g off (elem_cellsG hesz hcells hx) hg
        have hd := hg.2
        have hcellslen : cells.length = zs.length * sz := hown.1
        refine After.set (hm.write _ hmem hρ rfl _ fun hs => ?_) (.d _ _ (.val _))
        refine ⟨_, cells.take (n.toNat * sz + off) ++ (a.eval y).cells.toList ++ cells.drop (n.toNat * sz + off + i.sz), hρ, ⟨?_, .inr ⟨b, cap, _, by simp [hlen'], Nat.zero_le _, setRow_heap w b _ _ T _ hheap, by simpa using hnc, hcm, ?_, ?_⟩⟩, by simpa using hnl, ?_, ?_, ?_⟩
        · simp only [List.length_append, List.length_take, List.length_drop, hcellslen, hcl, List.length_set]; omega
        · simp only [List.size_toArray, List.length_append, List.length_take, List.length_drop, hcl, Array.length_toList, hcs]
          simp at hcurlen; omega
        · rw [← htake, ← hcl]
          simp only [List.length_set]
          rw [← List.append_assoc]
          exact take_splice cur.toList (a.eval y).cells.toList (n.toNat * sz + off) (zs.length * sz) (by rw [hcl]; omega) hcurlen
        · intro u hu
          simp only [List.mem_append] at hu
          rcases hu with (hu | hu) | hu
          · exact hone0 u (List.mem_of_mem_take hu)
          · exact hone u hu
          · exact hone0 u (List.mem_of_mem_drop hu)
        · intro z hz
          rcases List.mem_or_eq_of_mem_set hz with hz | rfl
          · exact hesz z hz
          · rw [hx']; unfold splice; simp only [List.length_append, List.length_take, List.length_drop, hl, hlen]; omega
        · intro i' j x s hxi hs'
          have hln : (cells.take (n.toNat * sz + off)).length = n.toNat * sz + off := by simp [hcellslen]; omega
          by_cases hi' : n.toNat = i'
          · subst hi'
            simp only [List.getElem?_set, hlt, if_true, Option.some.injEq] at hxi
            subst hxi
            have hj : j < sz := by
              have := (List.getElem?_eq_some_iff.1 hs').1
              rw [hx'] at this
              unfold splice at this
              simp only [List.length_append, List.length_take, List.length_drop, hl, hlen] at this
              omega
            rw [hx'] at hs'
            unfold splice at hs'
            simp only [List.getElem?_append, List.length_append, List.length_take, hl, hlen, List.getElem?_take, List.getElem?_drop] at hs'
            simp only [List.getElem?_append, List.length_append, hln, hcl, List.getElem?_take, List.getElem?_drop]
            have em : min off sz = off := by omega
            simp only [em] at hs'
            by_cases hj1 : j < off
            · simp only [show j < off + i.sz by omega, hj1, if_true] at hs'
              simp only [show n.toNat * sz + j < n.toNat * sz + off + i.sz by omega, show n.toNat * sz + j < n.toNat * sz + off by omega, if_true]
              obtain ⟨u, hu, hd'⟩ := hcells _ j _ s hx hs'
              exact ⟨u, hu, hd'.stp hs⟩
            · by_cases hj2 : j < off + i.sz
              · simp only [hj2, hj1, if_true, if_false] at hs'
                simp only [show n.toNat * sz + j < n.toNat * sz + off + i.sz by omega, show ¬ (n.toNat * sz + j < n.toNat * sz + off) by omega, if_true, if_false]
                have hlt' : j - off < (a.eval y).cells.toList.length := by omega
                refine ⟨(a.eval y).cells.toList[j - off], ?_, (hd (j - off) s _ hs' (List.getElem?_eq_getElem hlt')).stp hs⟩
                rw [show n.toNat * sz + j - (n.toNat * sz + off) = j - off by omega]
                exact List.getElem?_eq_getElem hlt'
              · simp only [hj2, if_false] at hs'
                simp only [show ¬ (n.toNat * sz + j < n.toNat * sz + off + i.sz) by omega, if_false]
                rw [show off + i.sz + (j - (off + i.sz)) = j by omega] at hs'
                obtain ⟨u, hu, hd'⟩ := hcells _ j _ s hx hs'
                refine ⟨u, ?_, hd'.stp hs⟩
                rw [show n.toNat * sz + off + i.sz + (n.toNat * sz + j - (n.toNat * sz + off + i.sz)) = n.toNat * sz + j by omega]
                exact hu
          · simp only [List.getElem?_set, hi', if_false] at hxi
            obtain ⟨u, hu, hd'⟩ := hcells i' j x s hxi hs'
            refine ⟨u, ?_, hd'.stp hs⟩
            have hj : j < sz := by
              have := (List.getElem?_eq_some_iff.1 hs').1
              rw [hesz x (List.mem_of_getElem? hxi)] at this; exact this
            simp only [List.getElem?_append, List.length_append, hln, hcl, List.getElem?_take, List.getElem?_drop]
            rcases Nat.lt_or_ge i' n.toNat with hlt2 | hge
            · have h5 : i' * sz + sz ≤ n.toNat * sz := by
                have := Nat.mul_le_mul_right sz (Nat.succ_le_of_lt hlt2)
                rw [Nat.succ_mul] at this; exact this
              simp only [show i' * sz + j < n.toNat * sz + off + i.sz by omega, show i' * sz + j < n.toNat * sz + off by omega, if_true]
              exact hu
            · have h5 : n.toNat * sz + sz ≤ i' * sz := by
                have := Nat.mul_le_mul_right sz (Nat.succ_le_of_lt (Nat.lt_of_le_of_ne hge hi'))
                rw [Nat.succ_mul] at this; exact this
              simp only [show ¬ (i' * sz + j < n.toNat * sz + off + i.sz) by omega, if_false]
              rw [show n.toNat * sz + off + i.sz + (i' * sz + j - (n.toNat * sz + off + i.sz)) = i' * sz + j by omega]
              exact hu
      rename_i hflat
      obtain ⟨h0, h1⟩ := h.ob
      have hlt : n.toNat < xs.length := by omega
      have hx := List.getElem?_eq_getElem hlt
      obtain ⟨x', hx', h⟩ := h.go _ hx
      refine ⟨_, _, h, fun o ho Keep M ρ a w hlm hm _ _ hgs => ?_⟩
      have hmem := mem_lookM (hlm k _ hlk)
      obtain ⟨v0, cells, hρ, hown, hnl, hone0, hesz, hcells⟩ := hm.rel k _ hmem
      obtain ⟨b, len, cap, hρ', hxv⟩ := (Gs.head hgs).eloc_inv
      rw [hρ] at hρ'; cases hρ'
      obtain ⟨hlen', cur, hheap, hnc, hcm, hcs, htake⟩ := own_row rfl hown
      obtain ⟨hg, hone⟩ := cellsOf_g hcell (Gs.head (Gs.tail hgs))
      have hcl : (a.eval y).cells.toList.length = i.sz := by rw [hg.1, hlen]
      have hl := hesz _ (List.mem_of_getElem? hx)
      have hmul : n.toNat * sz + sz ≤ xs.length * sz := by
        have := Nat.mul_le_mul_right sz (Nat.succ_le_of_lt hlt)
        rw [Nat.succ_mul] at this; exact this
      have hcurlen : xs.length * sz ≤ cur.toList.length := by simp [hcs]; exact Nat.mul_le_mul_right _ hnc
      have hrun := storeVar_run hTi hheap (v := a.eval y) (off := n.toNat * sz + off) (by simpa using hcl) (by simp at hcurlen; omega) hone
      refine Does.skip (w' := _) (by simp [execOp, ho, hxv, Instr.storeAt, Instr.sureAddr, hrun]; rfl) ?_
      have hsp := splice_g off (elem_cells hesz hcells hx (Pm := Own M ρ) (ρ := ρ)) hg
      have hd := flats_d hflat hg
      have hcellslen : cells.length = xs.length * sz := hown.1
      refine After.set (hm.write _ hmem hρ rfl _ fun hs => ?_) (.d _ _ (.val _))
      refine ⟨_, cells.take (n.toNat * sz + off) ++ (a.eval y).cells.toList ++ cells.drop (n.toNat * sz + off + i.sz), hρ, ⟨?_, .inr ⟨b, cap, _, by simp [hlen'], Nat.zero_le _, setRow_heap w b _ _ T _ hheap, by simpa using hnc, hcm, ?_, ?_⟩⟩, by simpa using hnl, ?_, ?_, ?_⟩
      · simp only [List.length_append, List.length_take, List.length_drop, hcellslen, hcl, List.length_set]; omega
      · simp only [List.size_toArray, List.length_append, List.length_take, List.length_drop, hcl, Array.length_toList, hcs]
        simp at hcurlen; omega
      · rw [← htake, ← hcl]
        simp only [List.length_set]
        rw [← List.append_assoc]
        exact take_splice cur.toList (a.eval y).cells.toList (n.toNat * sz + off) (xs.length * sz) (by rw [hcl]; omega) hcurlen
      · intro u hu
        simp only [List.mem_append] at hu
        rcases hu with (hu | hu) | hu
        · exact hone0 u (List.mem_of_mem_take hu)
        · exact hone u hu
        · exact hone0 u (List.mem_of_mem_drop hu)
      · intro z hz
        rcases List.mem_or_eq_of_mem_set hz with hz | rfl
        · exact hesz z hz
        · rw [hx']; unfold splice; simp only [List.length_append, List.length_take, List.length_drop, hl, hlen]; omega
      · intro i' j x s hxi hs'
        have hln : (cells.take (n.toNat * sz + off)).length = n.toNat * sz + off := by simp [hcellslen]; omega
        by_cases hi' : n.toNat = i'
        · subst hi'
          simp only [List.getElem?_set, hlt, if_true, Option.some.injEq] at hxi
          subst hxi
          have hj : j < sz := by
            have := (List.getElem?_eq_some_iff.1 hs').1
            rw [hx'] at this
            unfold splice at this
            simp only [List.length_append, List.length_take, List.length_drop, hl, hlen] at this
            omega
          rw [hx'] at hs'
          unfold splice at hs'
          simp only [List.getElem?_append, List.length_append, List.length_take, hl, hlen, List.getElem?_take, List.getElem?_drop] at hs'
          simp only [List.getElem?_append, List.length_append, hln, hcl, List.getElem?_take, List.getElem?_drop]
          have em : min off sz = off := by omega
          simp only [em] at hs'
          by_cases hj1 : j < off
          · simp only [show j < off + i.sz by omega, hj1, if_true] at hs'
            simp only [show n.toNat * sz + j < n.toNat * sz + off + i.sz by omega, show n.toNat * sz + j < n.toNat * sz + off by omega, if_true]
            obtain ⟨u, hu, hd'⟩ := hcells _ j _ s hx hs'
            exact ⟨u, hu, hd'.stp hs⟩
          · by_cases hj2 : j < off + i.sz
            · simp only [hj2, hj1, if_true, if_false] at hs'
              simp only [show n.toNat * sz + j < n.toNat * sz + off + i.sz by omega, show ¬ (n.toNat * sz + j < n.toNat * sz + off) by omega, if_true, if_false]
              have hlt' : j - off < (a.eval y).cells.toList.length := by omega
              refine ⟨(a.eval y).cells.toList[j - off], ?_, (hd (j - off) s _ hs' (List.getElem?_eq_getElem hlt')).stp hs⟩
              rw [show n.toNat * sz + j - (n.toNat * sz + off) = j - off by omega]
              exact List.getElem?_eq_getElem hlt'
            · simp only [hj2, if_false] at hs'
              simp only [show ¬ (n.toNat * sz + j < n.toNat * sz + off + i.sz) by omega, if_false]
              rw [show off + i.sz + (j - (off + i.sz)) = j by omega] at hs'
              obtain ⟨u, hu, hd'⟩ := hcells _ j _ s hx hs'
              refine ⟨u, ?_, hd'.stp hs⟩
              rw [show n.toNat * sz + off + i.sz + (n.toNat * sz + j - (n.toNat * sz + off + i.sz)) = n.toNat * sz + j by omega]
              exact hu
        · simp only [List.getElem?_set, hi', if_false] at hxi
          obtain ⟨u, hu, hd'⟩ := hcells i' j x s hxi hs'
          refine ⟨u, ?_, hd'.stp hs⟩
          have hj : j < sz := by
            have := (List.getElem?_eq_some_iff.1 hs').1
            rw [hesz x (List.mem_of_getElem? hxi)] at this; exact this
          simp only [List.getElem?_append, List.length_append, hln, hcl, List.getElem?_take, List.getElem?_drop]
          rcases Nat.lt_or_ge i' n.toNat with hlt2 | hge
          · have h5 : i' * sz + sz ≤ n.toNat * sz := by
              have := Nat.mul_le_mul_right sz (Nat.succ_le_of_lt hlt2)
              rw [Nat.succ_mul] at this; exact this
            simp only [show i' * sz + j < n.toNat * sz + off + i.sz by omega, show i' * sz + j < n.toNat * sz + off by omega, if_true]
            exact hu
          · have h5 : n.toNat * sz + sz ≤ i' * sz := by
              have := Nat.mul_le_mul_right sz (Nat.succ_le_of_lt (Nat.lt_of_le_of_ne hge hi'))
              rw [Nat.succ_mul] at this; exact this
            simp only [show ¬ (i' * sz + j < n.toNat * sz + off + i.sz) by omega, if_false]
            rw [show n.toNat * sz + off + i.sz + (i' * sz + j - (n.toNat * sz + off + i.sz)) = i' * sz + j by omega]
            exact hu
    · rename_i T sz' xs hlk
      replace h := guardB_elim h; obtain ⟨hsz, h⟩ := h
      replace h := guardB_elim h; obtain ⟨hle, h⟩ := h
      have hsz := Nat.eq_of_beq_eq_true hsz
      subst hsz
      have hle := Nat.le_of_ble_eq_true hle
      obtain ⟨h0, h1⟩ := h.ob
      have hlt : n.toNat < xs.length := by omega
      have hx := List.getElem?_eq_getElem hlt
      replace h := h.go _ hx
      obtain ⟨x', hx'⟩ : ∃ x', x' = splice (xs[n.toNat]) off (cellsOf v) := ⟨_, rfl⟩
      rw [← hx'] at h
      refine ⟨_, _, h, fun o ho Keep M ρ a w hlm hm _ _ hgs => ?_⟩
      have hmem := mem_lookM (hlm k _ hlk)
      obtain ⟨v0, cells, hρ, hown, hnl, hone0, hesz, hcells⟩ := hm.rel k _ hmem
      obtain ⟨b, len, cap, hρ', hxv⟩ := (Gs.head hgs).eloc_inv
      rw [hρ] at hρ'; cases hρ'
      obtain ⟨hlen', cur, hheap, hnc, hcm, hcs, htake⟩ := own_row rfl hown
      obtain ⟨hg, hone⟩ := cellsOf_g hcell (Gs.head (Gs.tail hgs))
      have hcl : (a.eval y).cells.toList.length = i.sz := by rw [hg.1, hlen]
      have hl := hesz _ (List.mem_of_getElem? hx)
      have hmul : n.toNat * sz + sz ≤ xs.length * sz := by
        have := Nat.mul_le_mul_right sz (Nat.succ_le_of_lt hlt)
        rw [Nat.succ_mul] at this; exact this
      have hcurlen : xs.length * sz ≤ cur.toList.length := by simp [hcs]; exact Nat.mul_le_mul_right _ hnc
      have hrun := storeVar_run hTi hheap (v := a.eval y) (off := n.toNat * sz + off) (by simpa using hcl) (by simp at hcurlen; omega) hone
      refine Does.skip (w' := _) (by simp [execOp, ho, hxv, Instr.storeAt, Instr.sureAddr, hrun]; rfl) ?_
      have hsp := splice_g off (elem_cellsG hesz hcells hx) hg
      have hd := hg.2
      have hcellslen : cells.length = xs.length * sz := hown.1
      refine After.set (hm.write _ hmem hρ rfl _ fun hs => ?_) (.d _ _ (.val _))
      refine ⟨_, cells.take (n.toNat * sz + off) ++ (a.eval y).cells.toList ++ cells.drop (n.toNat * sz + off + i.sz), hρ, ⟨?_, .inr ⟨b, cap, _, by simp [hlen'], Nat.zero_le _, setRow_heap w b _ _ T _ hheap, by simpa using hnc, hcm, ?_, ?_⟩⟩, by simpa using hnl, ?_, ?_, ?_⟩
      · simp only [List.length_append, List.length_take, List.length_drop, hcellslen, hcl, List.length_set]; omega
      · simp only [List.size_toArray, List.length_append, List.length_take, List.length_drop, hcl, Array.length_toList, hcs]
        simp at hcurlen; omega
      · rw [← htake, ← hcl]
        simp only [List.length_set]
        rw [← List.append_assoc]
        exact take_splice cur.toList (a.eval y).cells.toList (n.toNat * sz + off) (xs.length * sz) (by rw [hcl]; omega) hcurlen
      · intro u hu
        simp only [List.mem_append] at hu
        rcases hu with (hu | hu) | hu
        · exact hone0 u (List.mem_of_mem_take hu)
        · exact hone u hu
        · exact hone0 u (List.mem_of_mem_drop hu)
      · intro z hz
        rcases List.mem_or_eq_of_mem_set hz with hz | rfl
        · exact hesz z hz
        · rw [hx']; unfold splice; simp only [List.length_append, List.length_take, List.length_drop, hl, hlen]; omega
      · intro i' j x s hxi hs'
        have hln : (cells.take (n.toNat * sz + off)).length = n.toNat * sz + off := by simp [hcellslen]; omega
        by_cases hi' : n.toNat = i'
        · subst hi'
          simp only [List.getElem?_set, hlt, if_true, Option.some.injEq] at hxi
          subst hxi
          have hj : j < sz := by
            have := (List.getElem?_eq_some_iff.1 hs').1
            rw [hx'] at this
            unfold splice at this
            simp only [List.length_append, List.length_take, List.length_drop, hl, hlen] at this
            omega
          rw [hx'] at hs'
          unfold splice at hs'
          simp only [List.getElem?_append, List.length_append, List.length_take, hl, hlen, List.getElem?_take, List.getElem?_drop] at hs'
          simp only [List.getElem?_append, List.length_append, hln, hcl, List.getElem?_take, List.getElem?_drop]
          have em : min off sz = off := by omega
          simp only [em] at hs'
          by_cases hj1 : j < off
          · simp only [show j < off + i.sz by omega, hj1, if_true] at hs'
            simp only [show n.toNat * sz + j < n.toNat * sz + off + i.sz by omega, show n.toNat * sz + j < n.toNat * sz + off by omega, if_true]
            obtain ⟨u, hu, hd'⟩ := hcells _ j _ s hx hs'
            exact ⟨u, hu, hd'.stp hs⟩
          · by_cases hj2 : j < off + i.sz
            · simp only [hj2, hj1, if_true, if_false] at hs'
              simp only [show n.toNat * sz + j < n.toNat * sz + off + i.sz by omega, show ¬ (n.toNat * sz + j < n.toNat * sz + off) by omega, if_true, if_false]
              have hlt' : j - off < (a.eval y).cells.toList.length := by omega
              refine ⟨(a.eval y).cells.toList[j - off], ?_, (hd (j - off) s _ hs' (List.getElem?_eq_getElem hlt')).stp hs⟩
              rw [show n.toNat * sz + j - (n.toNat * sz + off) = j - off by omega]
              exact List.getElem?_eq_getElem hlt'
            · simp only [hj2, if_false] at hs'
              simp only [show ¬ (n.toNat * sz + j < n.toNat * sz + off + i.sz) by omega, if_false]
              rw [show off + i.sz + (j - (off + i.sz)) = j by omega] at hs'
              obtain ⟨u, hu, hd'⟩ := hcells _ j _ s hx hs'
              refine ⟨u, ?_, hd'.stp hs⟩
              rw [show n.toNat * sz + off + i.sz + (n.toNat * sz + j - (n.toNat * sz + off + i.sz)) = n.toNat * sz + j by omega]
              exact hu
        · simp only [List.getElem?_set, hi', if_false] at hxi
          obtain ⟨u, hu, hd'⟩ := hcells i' j x s hxi hs'
          refine ⟨u, ?_, hd'.stp hs⟩
          have hj : j < sz := by
            have := (List.getElem?_eq_some_iff.1 hs').1
            rw [hesz x (List.mem_of_getElem? hxi)] at this; exact this
          simp only [List.getElem?_append, List.length_append, hln, hcl, List.getElem?_take, List.getElem?_drop]
          rcases Nat.lt_or_ge i' n.toNat with hlt2 | hge
          · have h5 : i' * sz + sz ≤ n.toNat * sz := by
              have := Nat.mul_le_mul_right sz (Nat.succ_le_of_lt hlt2)
              rw [Nat.succ_mul] at this; exact this
            simp only [show i' * sz + j < n.toNat * sz + off + i.sz by omega, show i' * sz + j < n.toNat * sz + off by omega, if_true]
            exact hu
          · have h5 : n.toNat * sz + sz ≤ i' * sz := by
              have := Nat.mul_le_mul_right sz (Nat.succ_le_of_lt (Nat.lt_of_le_of_ne hge hi'))
              rw [Nat.succ_mul] at this; exact this
            simp only [show ¬ (i' * sz + j < n.toNat * sz + off + i.sz) by omega, if_false]
            rw [show n.toNat * sz + off + i.sz + (i' * sz + j - (n.toNat * sz + off + i.sz)) = i' * sz + j by omega]
            exact hu
    · exact h.elim
  · exact h.elim

end Go.Gs
/- Addresses, parts, new slices: what is left to be shown is enough. -/
namespace Go.Gs

theorem nthF_eq {l : List (Nat × TypeId)} {n : Nat} : nthF l n = l[n]? := by
  induction l generalizing n with
  | nil => rfl
  | cons x r ih => cases n with
    | zero => rfl
    | succ n => simp [nthF, ih]

theorem field_of {P : Program} {t : TypeId} {fs : List (Nat × TypeId)} (h : KindOK P t (.struct fs)) {f off : Nat} {ft : TypeId} (hn : nthF fs f = some (off, ft)) :
    ∃ (F : Array Field) (fl : Field), P.underlying t = some (.struct F) ∧ F[f]? = some fl ∧ fl.offset = off ∧ fl.type = ft := by
  obtain ⟨F, hF, hm, _⟩ := h
  rw [nthF_eq, ← hm, List.getElem?_map] at hn
  cases hq : F.toList[f]? with
  | none => simp [hq] at hn
  | some fl =>
    simp only [hq, Option.map_some, Option.some.injEq, Prod.mk.injEq] at hn
    exact ⟨F, fl, hF, by simpa using hq, hn.1, hn.2⟩

theorem fieldAddr_sound {P : Program} {Γ : List (TypeId × TI)} (hT : TOK P Γ) {t : TypeId} {x : Operand} {f : Nat} {s : SV} {lm : Nat → Option Mem} {κ : Nat} {K : SV → MD → Prop}
    (h : fieldAddrV Γ t f s K) : ∃ r, K r .none ∧ OpOK P (.fieldAddr t x f) [s] lm κ r .none := by
  unfold fieldAddrV at h
  replace h := withT_elim h; obtain ⟨i, hi, h⟩ := h
  have hk := (hT t i hi).kind
  split at h
  · rename_i fs hfs
    rw [hfs] at hk
    split at h
    · rename_i off ft hn
      replace h := withT_elim h; obtain ⟨j, hj, h⟩ := h
      replace h := guardB_elim h; obtain ⟨hz, h⟩ := h
      obtain ⟨F, fl, hF, hfl, hoff, hft⟩ := field_of hk hn
      have hsz : ∀ w, (sizeOf fl.type).run P w = .ok j.sz w := fun w => by rw [hft]; exact (hT ft j hj).size w
      have hz : ¬ j.sz = 0 := by
        have := Nat.le_of_ble_eq_true hz; omega
      have run : ∀ {o : Oper} (_ : o.op = .fieldAddr t x f) {a : Act} {w : World} {b o' : Nat}, a.eval x = .pointer (some ⟨b, o', none⟩) →
          (execOp a.eval o).run P w = .ok (.value (.pointer (some ⟨b, o' + off, none⟩))) w := by
        intro o ho a w b o' hx
        simp [execOp, ho, hx, Instr.fieldAt, Instr.sureAddr, run_underlying hF, hfl, fieldPlace, hsz, hz, addr_add, hoff]
      split at h
      · exact ⟨_, h, .pure fun o ho S Pm ρ a w hgs => by
          obtain ⟨b, hρ, hx⟩ := (Gs.head hgs).loc_inv
          exact ⟨_, run ho hx, .loc _ _ b hρ⟩⟩
      · refine ⟨_, h, .pure fun o ho S Pm ρ a w hgs => ?_⟩
        obtain ⟨b, o', c, hx, hb, hP, hc, hd⟩ := (Gs.head hgs).ptr_inv
        refine ⟨_, run ho hx, .ptr _ b (o' + off) (fun j => c (off + j)) hb hP (fun j hj => ?_) (fun j s hs => hd _ s (by simpa using hs))⟩
        have := hc (off + j) (by simp at hj; omega)
        rwa [← Nat.add_assoc] at this
      · refine ⟨_, h, .pure fun o ho S Pm ρ a w hgs => ?_⟩
        obtain ⟨b, o', c, hx, hb, hP, hc, hd⟩ := (Gs.head hgs).dptr_inv
        refine ⟨_, run ho hx, .d _ _ (.dptr _ b (o' + off) (fun j => c (off + j)) hb hP (fun j hj => ?_) (fun j s hs => hd _ s (by simpa using hs)))⟩
        have := hc (off + j) (by simp at hj; omega)
        rwa [← Nat.add_assoc] at this
      · exact ⟨_, h, .pure fun o ho S Pm ρ a w hgs => by
          obtain ⟨b, len, cap, hρ, hx⟩ := (Gs.head hgs).eloc_inv
          refine ⟨_, run ho hx, ?_⟩
          rw [Nat.add_assoc]
          exact .eloc _ _ _ _ b len cap hρ⟩
      · exact h.elim
    · exact h.elim
  · exact h.elim

theorem part_run {P : Program} {t : TypeId} {i : TI} (hT : TOne P t i) {S Pm : Nat → Prop} {ρ : Names} {w : World} {cs : List SV} {vs : List Value} (hg : Gs S Pm ρ w cs vs) {off : Nat}
    {s : SV} (hs : (i.kind.agg = true ∧ s = .agg ((cs.drop off).take i.sz)) ∨ (i.kind.agg = false ∧ ∃ r, cs.drop off = s :: r)) :
    ∃ v, (part t vs.toArray off).run P w = .ok v w ∧ G S Pm ρ w s v := by
  unfold part
  rw [Sem.run_bind, hT.agg w, Result.andThen_ok]
  rcases hs with ⟨h1, rfl⟩ | ⟨h1, r, hr⟩
  · have h2 := (hg.drop off).take i.sz
    exact ⟨.agg ((vs.drop off).take i.sz).toArray, by simp [h1, hT.size], .agg _ _ h2.1 h2.2⟩
  · have h2 := hg.drop off
    rw [hr] at h2
    obtain ⟨v, vs', hv, h3, _⟩ := h2.cons_inv
    have h4 : vs[off]? = some v := by
      have : (vs.drop off)[0]? = some v := by rw [hv]; rfl
      simpa using this
    exact ⟨v, by simp [h1, h4], h3⟩

theorem field_sound {P : Program} {Γ : List (TypeId × TI)} (hT : TOK P Γ) {t : TypeId} {x : Operand} {f : Nat} {s : SV} {lm : Nat → Option Mem} {κ : Nat} {K : SV → MD → Prop}
    (h : withT Γ t fun i => (match i.kind, s with
    | .struct fs, .agg cs => (match nthF fs f with
      | some (off, ft) => withT Γ ft fun j => guardB (Nat.ble (off + j.sz) cs.length) (mkV j.kind.agg j.sz (cs.drop off) fun s => K s .none)
      | none => False)
    | _, _ => False)) : ∃ r, K r .none ∧ OpOK P (.field t x f) [s] lm κ r .none := by
  replace h := withT_elim h; obtain ⟨i, hi, h⟩ := h
  have hk := (hT t i hi).kind
  split at h
  · rename_i fs cs hfs
    rw [hfs] at hk
    split at h
    · rename_i off ft hn
      replace h := withT_elim h; obtain ⟨j, hj, h⟩ := h
      replace h := (guardB_elim h).2
      replace h := mkV_elim h; obtain ⟨r, hK, h⟩ := h
      obtain ⟨F, fl, hF, hfl, hoff, hft⟩ := field_of hk hn
      refine ⟨r, hK, .pure fun o ho S Pm ρ a w hgs => ?_⟩
      obtain ⟨vs, hx, hvs⟩ := (Gs.head hgs).agg_inv
      obtain ⟨v, h1, h2⟩ := part_run (hT ft j hj) hvs h
      exact ⟨v, by simp [execOp, ho, hx, Instr.field, run_underlying hF, hfl, asAgg, hoff, hft, h1], h2⟩
    · exact h.elim
  · exact h.elim

theorem index_sound {P : Program} {Γ : List (TypeId × TI)} (hT : TOK P Γ) {t : TypeId} {x y : Operand} {s n : SV} {lm : Nat → Option Mem} {κ : Nat} {K : SV → MD → Prop}
    (h : indexV Γ t s n K) : ∃ r, K r .none ∧ OpOK P (.index t x y) [s, n] lm κ r .none := by
  unfold indexV at h
  replace h := withT_elim h; obtain ⟨i, hi, h⟩ := h
  have hk := (hT t i hi).kind
  split at h
  · rename_i len e cs k n hkind
    rw [hkind] at hk
    replace h := withT_elim h; obtain ⟨j, hj, h⟩ := h
    split at h
    · rename_i m
      replace h := guardB_elim h; obtain ⟨hlt, h⟩ := h
      replace h := (guardB_elim h).2
      replace h := mkV_elim h; obtain ⟨r, hK, h⟩ := h
      have hlt : m < len := Nat.le_of_ble_eq_true hlt
      refine ⟨r, hK, .pure fun o ho S Pm ρ a w hgs => ?_⟩
      obtain ⟨vs, hx, hvs⟩ := (Gs.head hgs).agg_inv
      have hy := (Gs.head (Gs.tail hgs)).val_inv
      obtain ⟨v, h1, h2⟩ := part_run (hT e j hj) hvs h
      exact ⟨v, by simp [execOp, ho, hx, hy, Instr.index, asIntOf, run_underlying hk, hlt, (hT e j hj).size, h1], h2⟩
    · exact h.elim
  · rename_i s k n hkind
    rw [hkind] at hk
    obtain ⟨⟨h0, h1⟩, h⟩ := h
    have hb : s[n.toNat]? = some (s[n.toNat]'(by omega)) := getElem?_pos s n.toNat (by omega)
    refine ⟨_, h _ hb, .pure fun o ho S Pm ρ a w hgs => ?_⟩
    have hx := hgs.head.val_inv
    have hy := hgs.tail.head.val_inv
    have hk : P.underlying t = some .string := hk
    refine ⟨_, ?_, .d _ _ (.val _)⟩
    simp only [execOp, ho, hx, hy, Instr.index, asIntOf, Sem.run_bind, Sem.run_pure, Result.andThen_ok, run_underlying hk, h0, if_true, hb]
  · exact h.elim

theorem indexAddr_sound {P : Program} {Γ : List (TypeId × TI)} (hT : TOK P Γ) {t : TypeId} {x y : Operand} {s n : SV} {lm : Nat → Option Mem} {κ : Nat} {K : SV → MD → Prop}
    (h : indexAddrV Γ t s n lm K) : ∃ r, K r .none ∧ OpOK P (.indexAddr t x y) [s, n] lm κ r .none := by
  unfold indexAddrV at h
  replace h := withT_elim h; obtain ⟨i, hi, h⟩ := h
  have hk := (hT t i hi).kind
  split at h
  · rename_i k n
    split at h
    · rename_i e hkind
      rw [hkind] at hk
      replace h := withT_elim h; obtain ⟨j, hj, h⟩ := h
      have hsz := (hT e j hj).size
      have run : ∀ {o : Oper} (_ : o.op = .indexAddr t x y) {a : Act} {w : World} {b off len cap : Nat}, a.eval x = .slice (some ⟨b, off, none⟩) len cap → a.eval y = .int k n → 0 ≤ n → n < len →
          (execOp a.eval o).run P w = .ok (.value (.pointer (some ⟨b, off + n.toNat * j.sz, none⟩))) w := by
        intro o ho a w b off len cap hx hy h0 h1
        simp [execOp, ho, hx, hy, Instr.indexAt, asIntOf, run_underlying hk, h0, h1, hsz, addr_add]
      split at h
      · rename_i α enc xs
        obtain ⟨h0, h1⟩ := h.ob
        have hlt : n.toNat < xs.length := by omega
        have hx := List.getElem?_eq_getElem hlt
        have h := h.go _ hx
        replace h := guardB_elim h; obtain ⟨hl, h⟩ := h
        have hl := Nat.eq_of_beq_eq_true hl
        refine ⟨_, h, .read fun o ho Keep M ρ a w _ _ hgs => ?_⟩
        have hy := (Gs.head (Gs.tail hgs)).val_inv
        rcases (Gs.head hgs).sl_inv.sl_inv with ⟨rfl, _⟩ | ⟨sz, b, off, cap, c, hxv, hb, hS, _, _, hesz, hc, hd⟩
        · simp at hlt
        · have hs : sz = j.sz := by rw [← hl]; exact (hesz _ (List.mem_of_getElem? hx)).symm
          subst hs
          refine ⟨_, run ho hxv hy h0 h1, ?_⟩
          refine .ptr _ b _ (fun j => c n.toNat j) hb ?_ (fun q hq => ?_) (fun q s hs => hd _ q _ s hx hs)
          · exact fun ho => hS (.inr ho)
          · have := hc n.toNat q hlt (by omega)
            exact this
      · rename_i k'
        split at h
        · rename_i T α enc sz xs hlk
          replace h := guardB_elim h; obtain ⟨hs, h⟩ := h
          have hs := Nat.eq_of_beq_eq_true hs
          subst hs
          obtain ⟨h0, h1⟩ := h.ob
          refine ⟨_, h.go, .read fun o ho Keep M ρ a w hlm hm hgs => ?_⟩
          have hy := (Gs.head (Gs.tail hgs)).val_inv
          obtain ⟨hρ', _⟩ := (Gs.head hgs).own_inv
          obtain ⟨v, cells, hρ, hown, _⟩ := hm.rel k' _ (hlm k' _ hlk)
          have hxv : a.eval x = v := by rw [hρ] at hρ'; exact (Option.some.inj hρ').symm
          rcases hown.2 with ⟨_, h3⟩ | ⟨g, cap, cur, rfl, _⟩
          · omega
          · refine ⟨_, run ho hxv hy h0 h1, ?_⟩
            rw [show 0 + n.toNat * j.sz = n.toNat * j.sz + 0 by omega]
            exact .eloc _ _ _ _ g _ _ hρ
        · rename_i T sz xs hlk
          replace h := guardB_elim h; obtain ⟨hs, h⟩ := h
          have hs := Nat.eq_of_beq_eq_true hs
          subst hs
          obtain ⟨h0, h1⟩ := h.ob
          refine ⟨_, h.go, .read fun o ho Keep M ρ a w hlm hm hgs => ?_⟩
          have hy := (Gs.head (Gs.tail hgs)).val_inv
          obtain ⟨hρ', _⟩ := (Gs.head hgs).own_inv
          obtain ⟨v, cells, hρ, hown, _⟩ := hm.rel k' _ (hlm k' _ hlk)
          have hxv : a.eval x = v := by rw [hρ] at hρ'; exact (Option.some.inj hρ').symm
          rcases hown.2 with ⟨_, h3⟩ | ⟨g, cap, cur, rfl, _⟩
          · omega
          · refine ⟨_, run ho hxv hy h0 h1, ?_⟩
            rw [show 0 + n.toNat * j.sz = n.toNat * j.sz + 0 by omega]
            exact .eloc _ _ _ _ g _ _ hρ
        · exact h.elim
      · rename_i k' sz lo l
        replace h := guardB_elim h; obtain ⟨hs, h⟩ := h
        have hs := Nat.eq_of_beq_eq_true hs
        subst hs
        obtain ⟨h0, h1, h2⟩ := h.ob
        refine ⟨_, h.go, .read fun o ho Keep M ρ a w hlm hm hgs => ?_⟩
        have hy := (Gs.head (Gs.tail hgs)).val_inv
        obtain ⟨b, len, cap, cap', hρ, hx, _, _⟩ := (Gs.head hgs).win_inv
        refine ⟨_, run ho hx hy h1 (by omega), ?_⟩
        have e : lo.toNat * j.sz + n.toNat * j.sz = (lo + n).toNat * j.sz + 0 := by
          rw [← Nat.add_mul, Nat.add_zero]; congr 1; omega
        rw [e]
        exact .eloc _ _ _ _ b _ _ hρ
      · exact h.elim
    · rename_i len e hkind
      rw [hkind] at hk
      replace h := withT_elim h; obtain ⟨j, hj, h⟩ := h
      have hsz := (hT e j hj).size
      split at h
      · rename_i m
        replace h := guardB_elim h; obtain ⟨hlt, h⟩ := h
        have hlt : m < len := Nat.le_of_ble_eq_true hlt
        have run : ∀ {o : Oper} (_ : o.op = .indexAddr t x y) {a : Act} {w : World} {b off : Nat}, a.eval x = .pointer (some ⟨b, off, none⟩) → a.eval y = .int k (Int.ofNat m) →
            (execOp a.eval o).run P w = .ok (.value (.pointer (some ⟨b, off + m * j.sz, none⟩))) w := by
          intro o ho a w b off hx hy
          simp [execOp, ho, hx, hy, Instr.indexAt, Instr.sureAddr, asIntOf, run_underlying hk, hlt, hsz, addr_add]
        split at h
        · exact ⟨_, h, .pure fun o ho S Pm ρ a w hgs => by
            obtain ⟨b, hρ, hx⟩ := (Gs.head hgs).loc_inv
            exact ⟨_, run ho hx (Gs.head (Gs.tail hgs)).val_inv, .loc _ _ b hρ⟩⟩
        · refine ⟨_, h, .pure fun o ho S Pm ρ a w hgs => ?_⟩
          obtain ⟨b, o', c, hx, hb, hP, hc, hd⟩ := (Gs.head hgs).ptr_inv
          refine ⟨_, run ho hx (Gs.head (Gs.tail hgs)).val_inv, .ptr _ b _ (fun q => c (m * j.sz + q)) hb hP (fun q hq => ?_) (fun q s hs => hd _ s (by simpa using hs))⟩
          have := hc (m * j.sz + q) (by simp at hq; omega)
          rwa [← Nat.add_assoc] at this
        · exact h.elim
      · exact h.elim
    · exact h.elim
  · exact h.elim

end Go.Gs
/- Slices cut, made, built; lengths; least and greatest; append. -/
namespace Go.Gs

theorem takeOpt_elim {o : Option Operand} {l : List SV} {d : Int} {K : Int → List SV → Prop} (h : takeOpt o l d K) :
    ∃ n r, K n r ∧ ∀ {S Pm : Nat → Prop} {ρ : Names} {w : World} (ev : Operand → Value) (rest : List Value), Gs S Pm ρ w l ((optL o).map ev ++ rest) →
      Gs S Pm ρ w r rest ∧ ((o = none ∧ n = d) ∨ ∃ x k, o = some x ∧ ev x = .int k n) := by
  unfold takeOpt at h
  split at h
  · exact ⟨_, _, h, fun ev rest hg => ⟨by simpa [optL] using hg, .inl ⟨rfl, rfl⟩⟩⟩
  · rename_i x
    split at h
    · rename_i k n r
      refine ⟨_, _, h, fun ev rest hg => ?_⟩
      have hg : Gs _ _ _ _ _ (ev x :: rest) := hg
      exact ⟨hg.tail, .inr ⟨x, k, rfl, hg.head.val_inv⟩⟩
    · exact h.elim

theorem bounds_run {P : Program} {w : World} {len cap : Nat} {lo hi mx : Option Operand} {ev : Operand → Value} {l h m : Int} (hok : optOK hi mx = true)
    (hlo : (lo = none ∧ l = 0) ∨ ∃ x k, lo = some x ∧ ev x = .int k l) (hhi : (hi = none ∧ h = len) ∨ ∃ x k, hi = some x ∧ ev x = .int k h)
    (hmx : (mx = none ∧ m = len) ∨ ∃ x k, mx = some x ∧ ev x = .int k m) (h0 : 0 ≤ l) (h1 : l ≤ h) (h2 : h ≤ m) (h3 : m ≤ len) (h4 : len ≤ cap) :
    ∃ q : Nat, (Instr.sliceBounds true len cap (lo.map ev) (hi.map ev) (mx.map ev)).run P w = .ok (l.toNat, h.toNat, q) w ∧ h.toNat ≤ q ∧ q ≤ cap ∧ (isNone mx = true → q = cap) ∧ (isNone mx = false → q = m.toNat) := by
  have e1 : (h.toNat : Int) = h := Int.toNat_of_nonneg (by omega)
  have e2 : (m.toNat : Int) = m := Int.toNat_of_nonneg (by omega)
  rcases hmx with ⟨rfl, rfl⟩ | ⟨xm, km, rfl, em⟩
  · rcases hhi with ⟨rfl, rfl⟩ | ⟨xh, kh, rfl, eh⟩
    · rcases hlo with ⟨rfl, rfl⟩ | ⟨xl, kl, rfl, el⟩
      · exact ⟨cap, by simp [Instr.sliceBounds], by simp; omega, Nat.le_refl _, fun _ => rfl, fun h => by cases h⟩
      · refine ⟨cap, ?_, by simp; omega, Nat.le_refl _, fun _ => rfl, fun h => by cases h⟩
        simp [Instr.sliceBounds, el, run_sliceBound w kl l len _ h0 (by omega)]
    · rcases hlo with ⟨rfl, rfl⟩ | ⟨xl, kl, rfl, el⟩
      · refine ⟨cap, ?_, by omega, Nat.le_refl _, fun _ => rfl, fun h => by cases h⟩
        simp [Instr.sliceBounds, eh, run_sliceBound w kh h cap _ (by omega) (by omega)]
      · refine ⟨cap, ?_, by omega, Nat.le_refl _, fun _ => rfl, fun h => by cases h⟩
        simp [Instr.sliceBounds, el, eh, run_sliceBound w kh h cap _ (by omega) (by omega), run_sliceBound w kl l h.toNat _ h0 (by omega)]
  · rcases hhi with ⟨rfl, rfl⟩ | ⟨xh, kh, rfl, eh⟩
    · simp [optOK] at hok
    · rcases hlo with ⟨rfl, rfl⟩ | ⟨xl, kl, rfl, el⟩
      · refine ⟨m.toNat, ?_, by omega, by omega, fun h => (by cases h), fun _ => rfl⟩
        simp [Instr.sliceBounds, eh, em, run_sliceBound w km m cap _ (by omega) (by omega), run_sliceBound w kh h m.toNat _ (by omega) (by omega)]
      · refine ⟨m.toNat, ?_, by omega, by omega, fun h => (by cases h), fun _ => rfl⟩
        simp [Instr.sliceBounds, el, eh, em, run_sliceBound w km m cap _ (by omega) (by omega), run_sliceBound w kh h m.toNat _ (by omega) (by omega), run_sliceBound w kl l h.toNat _ h0 (by omega)]

/-- A part of a slice that is read. -/
theorem sub_d {S : Nat → Prop} {w : World} {α : Type} {enc : α → List SV} {xs : List α} {a : Option Addr} {len cap : Nat} (hd : D S w (.sl enc xs) (.slice a len cap)) {sz : Nat} (hsz : ∀ x ∈ xs, (enc x).length = sz)
    {l h : Nat} (hlh : l ≤ h) (hh : h ≤ xs.length) {q : Nat} (hq : h ≤ q) (hqc : q ≤ cap) :
    D S w (.sl enc ((xs.drop l).take (h - l))) (sliced a l h q sz) := by
  have hlen : ((xs.drop l).take (h - l)).length = h - l := by simp; omega
  have hmem : ∀ x ∈ (xs.drop l).take (h - l), x ∈ xs := fun x hx => List.mem_of_mem_drop (List.mem_of_mem_take hx)
  rcases hd.sl_inv with ⟨rfl, a, hv⟩ | ⟨sz', b, o, cap', c, hv, hb, hS, hl48, hcap, hesz, hc, he⟩
  · cases hv
    have : h = 0 := by simpa using hh
    subst this
    have : l = 0 := by omega
    subst this
    have : q = 0 := by omega
    subst this
    exact .nil enc _
  · cases hv
    have hix : ∀ i x, ((xs.drop l).take (h - l))[i]? = some x → xs[l + i]? = some x ∧ i < h - l := by
      intro i x hx
      rw [List.getElem?_take] at hx
      split at hx
      · exact ⟨by simpa using hx, by assumption⟩
      · cases hx
    have hs : 0 < h - l → sz' = sz := fun hp => by
      have h1 := List.getElem?_eq_getElem (show l < xs.length by omega)
      have h2 := List.mem_of_getElem? h1
      rw [← hesz _ h2, ← hsz _ h2]
    unfold sliced
    by_cases hql : q = l
    · rw [if_pos hql]
      have h0 : h - l = 0 := by omega
      have := D.sl (S := S) (w := w) enc ((xs.drop l).take (h - l)) sz' b o (q - l) c hb hS (by omega) (by omega) (fun x hx => hesz x (hmem x hx)) (fun i j hi => by omega) (fun i j x s hx => by
        have := (hix i x hx).2; omega)
      rwa [hlen] at this
    · rw [if_neg hql]
      simp only [Option.map_some, addr_add]
      have := D.sl (S := S) (w := w) enc ((xs.drop l).take (h - l)) sz' b (o + l * sz) (q - l) (fun i j => c (l + i) j) hb hS (by omega) (by omega) (fun x hx => hesz x (hmem x hx)) (fun i j hi hj => by
        have h5 := hc (l + i) j (by omega) hj
        rw [Nat.add_mul, hs (by omega)] at h5
        rw [hs (by omega), show o + l * sz + i * sz + j = o + (l * sz + i * sz) + j by omega]
        exact h5) (fun i j x s hx hs' => he (l + i) j x s (hix i x hx).1 hs')
      rwa [hlen] at this

theorem own_d {Keep : Nat → Prop} {M : List (Nat × Mem)} {ρ : Names} {w : World} (hm : MemOK Keep M ρ w) {k : Nat} {T : TypeId} {α : Type} {enc : α → List SV} {sz : Nat} {xs : List α}
    (hk : (k, Mem.arr T enc sz xs) ∈ M) {S : Nat → Prop} (hS : ∀ b, S b → Keep b ∨ Own M ρ b) (hSk : ∀ v b, ρ k = some v → blkOf v = some b → ¬ S b) {v : Value} (hv : ρ k = some v) : D S w (.sl enc xs) v := by
  obtain ⟨v', cells, hρ, hown, hlen, hone, hesz, hcells⟩ := hm.rel k _ hk
  rw [hv] at hρ; cases hρ
  rcases hown.2 with ⟨rfl, h0⟩ | ⟨g, cap, cur, rfl, _, hheap, hnc, hcm, hcs, htake⟩
  · have : xs = [] := List.eq_nil_of_length_eq_zero h0
    subst this; exact .nil enc _
  · have hcl := hown.1
    have hc : ∀ i j, i < xs.length → j < sz → ∃ u, cells[i * sz + j]? = some u := fun i j hi hj => by
      have h1 : i * sz + sz ≤ xs.length * sz := by
        have := Nat.mul_le_mul_right sz (Nat.succ_le_of_lt hi)
        rw [Nat.succ_mul] at this; exact this
      exact ⟨_, List.getElem?_eq_getElem (show i * sz + j < cells.length by omega)⟩
    refine .sl enc xs sz g 0 cap (fun i j => (cells[i * sz + j]?).getD undef) (hm.old g ⟨k, _, _, hk, hv, rfl⟩).1 (hSk _ g hv rfl) (by omega) hnc hesz ?_ ?_
    · intro i j hi hj
      obtain ⟨u, hu⟩ := hc i j hi hj
      rw [hu]
      refine ⟨?_, hone u (List.mem_of_getElem? hu)⟩
      have := own_cell hheap htake hu
      simpa [Nat.zero_add] using this
    · intro i j x s hx hs
      obtain ⟨u, hu, hd⟩ := hcells i j x s hx hs
      rw [hu]
      exact hd.mono (Nat.le_refl _) fun b _ hb => ⟨fun h => hb (hS b h), rfl⟩

/-- A front part of what is one's own, still one's own. -/
theorem keep_after {P : Program} {o : Oper} {Keep : Nat → Prop} {M : List (Nat × Mem)} {ρ : Names} {a : Act} {w : World} (hm : MemOK Keep M ρ w) {k κ : Nat} {m m' : Mem} (hmem : (k, m) ∈ M) {v : Value} (hv : ρ k = some v)
    {T : TypeId} {sz n : Nat} {cells : List Value} (hown : w.ownsRow 0 T sz v n cells) (hκ : ρ κ = none) (hκM : ∀ m, (κ, m) ∉ M) {lo hi : Option Operand} {h : Int}
    (hlo : (lo = none ∧ (0 : Int) = 0) ∨ ∃ x k, lo = some x ∧ a.eval x = .int k 0) (hhi : (hi = none ∧ h = n) ∨ ∃ x k, hi = some x ∧ a.eval x = .int k h) (h1 : 0 ≤ h) (h2 : h ≤ n)
    (run : ∀ (ad : Option Addr) (cap q : Nat), v = .slice ad n cap → (Instr.sliceBounds true n cap (lo.map a.eval) (hi.map a.eval) ((none : Option Operand).map a.eval)).run P w = .ok ((0 : Int).toNat, h.toNat, q) w →
      (execOp a.eval o).run P w = .ok (.value (sliced ad (0 : Int).toNat h.toNat q sz)) w)
    (hrel : ∀ v', w.ownsRow 0 T sz v' h.toNat (cells.take (h.toNat * sz)) → upd ρ κ v' κ = some v' → Stp (Own M ρ) (Own ((κ, m') :: dropM M k) (upd ρ κ v')) ρ (upd ρ κ v') w w →
      MRel (fun b => Keep b ∨ Own ((κ, m') :: dropM M k) (upd ρ κ v') b) (Own ((κ, m') :: dropM M k) (upd ρ κ v')) (upd ρ κ v') w κ m') :
    Does P o a w (After Keep M ρ w κ (.own κ) (.repl k m')) := by
  have fin : ∀ v' : Value, (execOp a.eval o).run P w = .ok (.value v') w → w.ownsRow 0 T sz v' h.toNat (cells.take (h.toNat * sz)) → blkOf v' = blkOf v → v'.oneCell' = true →
      Does P o a w (After Keep M ρ w κ (.own κ) (.repl k m')) := fun v' hr ho hb h1' => by
    refine Does.value hr ?_
    have hgrow := hm.grow (M1 := dropM M k) (fun x hx => mem_dropM x hx) (pairwise_dropM hm.keys) hκ hκM v' m' w rfl rfl (.refl _) (Nat.le_refl _) (fun _ _ _ => rfl) (fun _ _ _ _ _ _ _ => rfl)
      (fun b hb' => by
        rw [hb] at hb'
        have ho : Own M ρ b := ⟨k, _, v, hmem, hv, hb'⟩
        exact ⟨.inl ho, (hm.old b ho).1, fun k' m v1 g1 g2 g3 => hm.apart k' m k _ v1 v b (mem_dropM _ g1) hmem (dropM_ne hm.keys _ g1) g2 hv g3 hb'⟩)
      (fun hs => hrel v' ho upd_same hs)
    exact ⟨upd ρ κ v', hgrow.1, hgrow.2, .own _ _ upd_same h1', fun k' hk' => upd_ne (by
      rcases hk' with hk' | hk'
      · omega
      · simp only [appK] at hk'; omega)⟩
  have hcl := hown.1
  have hmul : h.toNat * sz ≤ n * sz := Nat.mul_le_mul_right _ (by omega)
  rcases hown.2 with ⟨rfl, h0⟩ | ⟨g, cap, cur, rfl, g0, hheap, hnc, hcm, hcs, htake⟩
  · subst h0
    have hh0 : h = 0 := by omega
    subst hh0
    obtain ⟨q, hb, hq, hqc, hq1, _⟩ := bounds_run (P := P) (w := w) (len := 0) (cap := 0) (mx := none) (m := 0) (ev := a.eval) (by cases hi <;> rfl) hlo hhi (.inl ⟨rfl, rfl⟩) (by omega) (by omega) (by omega) (by omega) (Nat.le_refl _)
    have hq0 : q = 0 := by omega
    subst hq0
    have hc0 : cells = [] := List.eq_nil_of_length_eq_zero (by simpa using hcl)
    subst hc0
    exact fin _ (run none 0 0 rfl hb) (by simpa [sliced] using World.ownsRow_nil w 0 T sz) rfl rfl
  · obtain ⟨q, hb, hq, hqc, hq1, _⟩ := bounds_run (P := P) (w := w) (len := n) (cap := cap) (mx := none) (m := n) (ev := a.eval) (by cases hi <;> rfl) hlo hhi (.inl ⟨rfl, rfl⟩) (by omega) (by omega) (by omega) (by omega) hnc
    have hq0 : q = cap := hq1 rfl
    subst hq0
    have e : sliced (some ⟨g, 0, none⟩) (0 : Int).toNat h.toNat q sz = .slice (some ⟨g, 0, none⟩) h.toNat q := by
      unfold sliced
      simp only [Int.toNat_zero, Nat.zero_mul, Nat.sub_zero, Option.map_some, addr_add, Nat.add_zero, ite_self]
    refine fin _ (run _ q q rfl hb) ?_ (by rw [e]; rfl) (by rw [e]; rfl)
    rw [e]
    refine ⟨by rw [List.length_take, hcl]; omega, .inr ⟨g, q, cur, rfl, g0, hheap, by omega, hcm, hcs, ?_⟩⟩
    rw [← htake, List.take_take, Nat.min_eq_left hmul]

theorem slice_sound {P : Program} {Γ : List (TypeId × TI)} (hT : TOK P Γ) {t : TypeId} {x : Operand} {lo hi mx : Option Operand} {svs : List SV} {lm : Nat → Option Mem} {κ : Nat} {K : SV → MD → Prop}
    (h : sliceV Γ t lo hi mx svs lm κ K) : ∃ r md, K r md ∧ OpOK P (.slice t x lo hi mx) svs lm κ r md := by
  unfold sliceV at h
  replace h := guardB_elim h; obtain ⟨hok, h⟩ := h
  split at h
  · rename_i s rest
    replace h := withT_elim h; obtain ⟨i, hi', h⟩ := h
    have hk := (hT t i hi').kind
    split at h
    · rename_i e hkind
      rw [hkind] at hk
      have helem : P.elem t = e := by have hk : P.underlying t = some (.slice e) := hk; simp [Program.elem, hk]
      have hk' : P.underlying t = some (.slice (P.elem t)) := by rw [helem]; exact hk
      replace h := withT_elim h; obtain ⟨j, hj, h⟩ := h
      have hsz := (hT e j hj).size
      have run : ∀ {o : Oper} (_ : o.op = .slice t x lo hi mx) {a : Act} {w : World} {ad : Option Addr} {len cap l h q : Nat}, a.eval x = .slice ad len cap →
          (Instr.sliceBounds true len cap (lo.map a.eval) (hi.map a.eval) (mx.map a.eval)).run P w = .ok (l, h, q) w → (execOp a.eval o).run P w = .ok (.value (sliced ad l h q j.sz)) w := by
        intro o ho a w ad len cap l h q hx hb
        simp [execOp, ho, hx, run_sliceAt_slice (h := hk'), run_slice_any (ht := hk'), hb, helem, hsz]
      split at h
      · rename_i α enc xs
        split at h
        · rename_i hz
          obtain ⟨hz1, hz2⟩ := andB_elim hz
          obtain ⟨l, r1, h, hl⟩ := takeOpt_elim h
          obtain ⟨hh, r2, h, hh'⟩ := takeOpt_elim h
          obtain ⟨m, r3, h, hm'⟩ := takeOpt_elim h
          obtain ⟨rfl, rfl, rfl⟩ := h.ob
          refine ⟨_, _, h.go, .pure fun o ho S Pm ρ a w hgs => ?_⟩
          have hgs : Gs S Pm ρ w (SV.sl enc xs :: rest) (a.eval x :: ((optL lo ++ (optL hi ++ optL mx)).map a.eval)) := hgs
          simp only [List.map_append] at hgs
          obtain ⟨g1, e1⟩ := hl a.eval _ hgs.tail
          obtain ⟨g2, e2⟩ := hh' a.eval _ g1
          obtain ⟨g3, e3⟩ := hm' a.eval [] (by simpa using g2)
          have hd := hgs.head.sl_inv
          have key : ∃ ad cap, a.eval x = .slice ad xs.length cap ∧ xs.length ≤ cap := by
            rcases hd.sl_inv with ⟨rfl, a0, hv⟩ | ⟨_, b, o', cap, _, hv, _, _, _, hc, _⟩
            · exact ⟨a0, 0, hv, by simp⟩
            · exact ⟨_, cap, hv, hc⟩
          obtain ⟨ad, cap, hx, hcap⟩ := key
          have n1 : hi ≠ none := fun e => by rw [e] at hz1; cases hz1
          have n2 : mx ≠ none := fun e => by rw [e] at hz2; cases hz2
          have n3 : isNone mx = false := by cases mx with | none => exact absurd rfl n2 | some _ => rfl
          obtain ⟨q, hb, hq, hqc, _, hq2⟩ := bounds_run (P := P) (w := w) (len := xs.length) (cap := cap) (l := 0) (h := 0) (m := 0) hok e1 (e2.imp (fun e => absurd e.1 n1) id) (e3.imp (fun e => absurd e.1 n2) id) (by omega) (by omega) (by omega) (by omega) hcap
          have hq0 : q = 0 := hq2 n3
          subst hq0
          exact ⟨_, run ho hx hb, .d _ _ (.nils _)⟩
        · obtain ⟨l, r1, h, hl⟩ := takeOpt_elim h
          obtain ⟨hh, r2, h, hh'⟩ := takeOpt_elim h
          obtain ⟨m, r3, h, hm'⟩ := takeOpt_elim h
          have main : ∀ {K' : Prop}, (0 ≤ l ∧ l ≤ hh ∧ hh ≤ m ∧ m ≤ xs.length) → (∀ x ∈ xs, (enc x).length = j.sz) → ∀ (o : Oper), o.op = .slice t x lo hi mx → ∀ (S Pm : Nat → Prop) (ρ : Names) (a : Act) (w : World), Gs S Pm ρ w (SV.sl enc xs :: rest) ((operandsL (.slice t x lo hi mx)).map a.eval) →
              ∃ v, (execOp a.eval o).run P w = .ok (.value v) w ∧ D S w (.sl enc ((xs.drop l.toNat).take (hh - l).toNat)) v ∧ (isNone mx = false → hh = m → ∃ ad, v = .slice ad ((xs.drop l.toNat).take (hh - l).toNat).length ((xs.drop l.toNat).take (hh - l).toNat).length) := ?main
          split at h
          · obtain ⟨hbd, hes⟩ := h.ob
            refine ⟨_, _, h.go, .pure fun o ho S Pm ρ a w hgs => ?_⟩
            obtain ⟨v, r1, r2, _⟩ := main (K' := True) hbd hes o ho S Pm ρ a w hgs
            exact ⟨v, r1, .d _ _ r2⟩
          · rename_i hnm
            rcases h with h | h
            · obtain ⟨hbd, hes⟩ := h.ob
              refine ⟨_, _, h.go, .pure fun o ho S Pm ρ a w hgs => ?_⟩
              obtain ⟨v, r1, r2, _⟩ := main (K' := True) hbd hes o ho S Pm ρ a w hgs
              exact ⟨v, r1, .d _ _ r2⟩
            · obtain ⟨⟨h0, h1, h2, h3⟩, hes⟩ := h.ob
              refine ⟨_, _, h.go, .pure fun o ho S Pm ρ a w hgs => ?_⟩
              obtain ⟨v, r1, r2, r3⟩ := main (K' := True) ⟨h0, h1, by omega, h3⟩ hes o ho S Pm ρ a w hgs
              obtain ⟨ad, rfl⟩ := r3 hnm h2
              exact ⟨_, r1, .d _ _ (.full _ _ ad r2)⟩
          intro K' ⟨h0, h1, h2, h3⟩ hes o ho S Pm ρ a w hgs
          have hgs : Gs S Pm ρ w (SV.sl enc xs :: rest) (a.eval x :: ((optL lo ++ (optL hi ++ optL mx)).map a.eval)) := hgs
          simp only [List.map_append] at hgs
          obtain ⟨g1, e1⟩ := hl a.eval _ hgs.tail
          obtain ⟨g2, e2⟩ := hh' a.eval _ g1
          obtain ⟨g3, e3⟩ := hm' a.eval [] (by simpa using g2)
          have hd := hgs.head.sl_inv
          have key : ∃ ad cap, a.eval x = .slice ad xs.length cap ∧ xs.length ≤ cap := by
            rcases hd.sl_inv with ⟨rfl, a0, hv⟩ | ⟨_, b, o', cap, _, hv, _, _, _, hc, _⟩
            · exact ⟨a0, 0, hv, by simp⟩
            · exact ⟨_, cap, hv, hc⟩
          obtain ⟨ad, cap, hx, hcap⟩ := key
          obtain ⟨q, hb, hq, hqc, _, hq2⟩ := bounds_run (P := P) (w := w) (len := xs.length) (cap := cap) hok e1 e2 e3 h0 h1 h2 h3 hcap
          refine ⟨_, run ho hx hb, ?_, fun hnm heq => ?_⟩
          · rw [hx] at hd
            have := sub_d hd hes (l := l.toNat) (h := hh.toNat) (by omega) (by omega) hq hqc
            rwa [show hh.toNat - l.toNat = (hh - l).toNat by omega] at this
          · have hq3 : q = hh.toNat := by rw [hq2 hnm, heq]
            have hln : ((xs.drop l.toNat).take (hh - l).toNat).length = hh.toNat - l.toNat := by simp; omega
            unfold sliced
            rw [hln, hq3]
            split
            · rename_i he
              have : hh.toNat - l.toNat = 0 := by omega
              rw [this]; exact ⟨_, rfl⟩
            · exact ⟨_, rfl⟩
      · obtain ⟨l, r1, h, hl⟩ := takeOpt_elim h
        obtain ⟨hh, r2, h, hh'⟩ := takeOpt_elim h
        obtain ⟨m, r3, h, hm'⟩ := takeOpt_elim h
        obtain ⟨rfl, rfl, rfl⟩ := h.ob
        refine ⟨_, _, h.go, .pure fun o ho S Pm ρ a w hgs => ?_⟩
        have hgs : Gs S Pm ρ w (SV.val (.slice none 0 0) :: rest) (a.eval x :: ((optL lo ++ (optL hi ++ optL mx)).map a.eval)) := hgs
        simp only [List.map_append] at hgs
        obtain ⟨g1, e1⟩ := hl a.eval _ hgs.tail
        obtain ⟨g2, e2⟩ := hh' a.eval _ g1
        obtain ⟨g3, e3⟩ := hm' a.eval [] (by simpa using g2)
        obtain ⟨q, hb, hq, hqc, _⟩ := bounds_run (P := P) (w := w) (len := 0) (cap := 0) (l := 0) (h := 0) (m := 0) hok e1 e2 e3 (by omega) (by omega) (by omega) (by omega) (Nat.le_refl _)
        have hq0 : q = 0 := by omega
        subst hq0
        exact ⟨_, run ho hgs.head.val_inv hb, .d _ _ (.val _)⟩
      · rename_i k
        split at h
        · rename_i T α enc sz xs hlk
          replace h := guardB_elim h; obtain ⟨hs, h⟩ := h
          have hs := Nat.eq_of_beq_eq_true hs
          subst hs
          obtain ⟨l, r1, h, hl⟩ := takeOpt_elim h
          obtain ⟨hh, r2, h, hh'⟩ := takeOpt_elim h
          obtain ⟨m, r3, h, hm'⟩ := takeOpt_elim h
          rcases h with hsee | hkeep | hwin
          rotate_left
          · obtain ⟨hnone, hkp⟩ := guardB_elim hkeep
            have hmx : mx = none := by cases mx with | none => rfl | some _ => cases hnone
            subst hmx
            obtain ⟨ho1, hgo⟩ := hkp
            obtain ⟨rfl, h1, h2⟩ := ho1
            refine ⟨_, _, hgo, fun o ho Keep M ρ a w hlm hm hκ hκM hgs => ?_⟩
            replace hκ := hκ _ (Nat.le_refl _) (Nat.lt_succ_self _); replace hκM := hκM rfl
            have hmem := mem_lookM (hlm k _ hlk)
            have hgs : Gs (fun b => Keep b ∨ Own M ρ b) (Own M ρ) ρ w (SV.own k :: rest) (a.eval x :: ((optL lo ++ (optL hi ++ optL none)).map a.eval)) := hgs
            simp only [List.map_append] at hgs
            obtain ⟨g1, e1⟩ := hl a.eval _ hgs.tail
            obtain ⟨g2, e2⟩ := hh' a.eval _ g1
            obtain ⟨hv, _⟩ := hgs.head.own_inv
            obtain ⟨v', cells, hρ, hown, hlen, hone, hesz, hcells⟩ := hm.rel k _ hmem
            rw [hv] at hρ; cases hρ
            refine keep_after hm hmem hv hown hκ hκM e1 e2 h1 h2 (fun ad cap q hx hb => run ho hx hb) (fun v' hown' hρ' hs => ⟨v', cells.take (hh.toNat * j.sz), hρ', ?_, by simp; omega, fun u hu => hone u (List.mem_of_mem_take hu), fun x hx => hesz x (List.mem_of_mem_take hx), fun i' j' x s hx hs' => ?_⟩)
            · simpa [Nat.min_eq_left (show hh.toNat ≤ xs.length by omega)] using hown'
            · rw [List.getElem?_take] at hx
              split at hx
              · rename_i hi'
                obtain ⟨u, hu, hd⟩ := hcells i' j' x s hx hs'
                refine ⟨u, ?_, hd.stp hs⟩
                have hj' : j' < j.sz := by
                  have := (List.getElem?_eq_some_iff.1 hs').1
                  rw [hesz x (List.mem_of_getElem? hx)] at this; exact this
                have := Nat.mul_le_mul_right j.sz (Nat.succ_le_of_lt hi')
                rw [Nat.succ_mul] at this
                rw [List.getElem?_take, if_pos (by omega)]; exact hu
              · cases hx
          · obtain ⟨h0, h1, h2, h3⟩ := hwin.ob
            refine ⟨_, _, hwin.go, fun o ho Keep M ρ a w hlm hm _ _ hgs => ?_⟩
            have hmem := mem_lookM (hlm k _ hlk)
            have hgs : Gs (fun b => Keep b ∨ Own M ρ b) (Own M ρ) ρ w (SV.own k :: rest) (a.eval x :: ((optL lo ++ (optL hi ++ optL mx)).map a.eval)) := hgs
            simp only [List.map_append] at hgs
            obtain ⟨g1, e1⟩ := hl a.eval _ hgs.tail
            obtain ⟨g2, e2⟩ := hh' a.eval _ g1
            obtain ⟨g3, e3⟩ := hm' a.eval [] (by simpa using g2)
            obtain ⟨hv, _⟩ := hgs.head.own_inv
            obtain ⟨v', cells, hρ, hown, hlen, hone, hesz, hcells⟩ := hm.rel k _ hmem
            rw [hv] at hρ; cases hρ
            rcases hown.2 with ⟨_, h00⟩ | ⟨g, cap, cur, hx, _, hheap, hnc, _⟩
            · omega
            · obtain ⟨q, hb, hq, hqc, _⟩ := bounds_run (P := P) (w := w) (len := xs.length) (cap := cap) hok e1 e2 e3 h0 (by omega) h2 h3 hnc
              refine Does.value (run ho hx hb) (After.same hm ?_)
              unfold sliced
              rw [if_neg (by omega)]
              simp only [Option.map_some, addr_add, Nat.zero_add]
              have hn : (hh - l).toNat = hh.toNat - l.toNat := by omega
              rw [← hn]
              exact .win k j.sz l (hh - l) g xs.length cap (q - l.toNat) (hx ▸ hv) (by omega) (by omega)
          obtain ⟨h0, h1, h2, h3⟩ := hsee.ob
          refine ⟨_, _, hsee.go, fun o ho Keep M ρ a w hlm hm _ _ hgs => ?_⟩
          have hmem := mem_lookM (hlm k _ hlk)
          have hgs : Gs (fun b => Keep b ∨ Own M ρ b) (Own M ρ) ρ w (SV.own k :: rest) (a.eval x :: ((optL lo ++ (optL hi ++ optL mx)).map a.eval)) := hgs
          simp only [List.map_append] at hgs
          obtain ⟨g1, e1⟩ := hl a.eval _ hgs.tail
          obtain ⟨g2, e2⟩ := hh' a.eval _ g1
          obtain ⟨g3, e3⟩ := hm' a.eval [] (by simpa using g2)
          obtain ⟨hv, _⟩ := hgs.head.own_inv
          obtain ⟨hs, hmo⟩ := hm.let_go (M1 := dropM M k) (fun x hx => mem_dropM x hx) (pairwise_dropM hm.keys)
          have hd : D (fun b => Keep b ∨ Own (dropM M k) ρ b) w (.sl enc xs) (a.eval x) := own_d hm hmem
            (fun b hb => hb.imp id fun ⟨k', m', v', h1, h2, h3⟩ => ⟨k', m', v', mem_dropM _ h1, h2, h3⟩)
            (fun v b hv' hb hSb => by
              rcases hSb with hSb | ⟨k', m', v', h4, h5, h6⟩
              · exact (hm.old b ⟨k, _, v, hmem, hv', hb⟩).2 hSb
              · exact hm.apart k _ k' m' v v' b hmem (mem_dropM _ h4) (Ne.symm (dropM_ne hm.keys _ h4)) hv' h5 hb h6) hv
          obtain ⟨v', cells, hρ, hown, hlen, hone, hesz, hcells⟩ := hm.rel k _ hmem
          have key : ∃ ad cap, a.eval x = .slice ad xs.length cap ∧ xs.length ≤ cap := by
            rcases hd.sl_inv with ⟨rfl, a0, hv⟩ | ⟨_, b, o', cap, _, hv, _, _, _, hc, _⟩
            · exact ⟨a0, 0, hv, by simp⟩
            · exact ⟨_, cap, hv, hc⟩
          obtain ⟨ad, cap, hx, hcap⟩ := key
          obtain ⟨q, hb, hq, hqc, _⟩ := bounds_run (P := P) (w := w) (len := xs.length) (cap := cap) hok e1 e2 e3 h0 h1 h2 h3 hcap
          refine Does.value (run ho hx hb) ⟨ρ, hs, hmo, .d _ _ ?_, fun _ _ => rfl⟩
          rw [hx] at hd
          have := sub_d hd hesz (l := l.toNat) (h := hh.toNat) (by omega) (by omega) hq hqc
          rwa [show hh.toNat - l.toNat = (hh - l).toNat by omega] at this
        · rename_i T sz xs hlk
          replace h := guardB_elim h; obtain ⟨hs, h⟩ := h
          have hs := Nat.eq_of_beq_eq_true hs
          subst hs
          obtain ⟨hnone, hkp⟩ := guardB_elim h
          have hmx : mx = none := by cases mx with | none => rfl | some _ => cases hnone
          subst hmx
          obtain ⟨l, r1, hk1, hl⟩ := takeOpt_elim hkp
          obtain ⟨hh, r2, hk2, hh'⟩ := takeOpt_elim hk1
          obtain ⟨ho1, hgo⟩ := hk2
          obtain ⟨rfl, h1, h2⟩ := ho1
          refine ⟨_, _, hgo, fun o ho Keep M ρ a w hlm hm hκ hκM hgs => ?_⟩
          replace hκ := hκ _ (Nat.le_refl _) (Nat.lt_succ_self _); replace hκM := hκM rfl
          have hmem := mem_lookM (hlm k _ hlk)
          have hgs : Gs (fun b => Keep b ∨ Own M ρ b) (Own M ρ) ρ w (SV.own k :: rest) (a.eval x :: ((optL lo ++ (optL hi ++ optL none)).map a.eval)) := hgs
          simp only [List.map_append] at hgs
          obtain ⟨g1, e1⟩ := hl a.eval _ hgs.tail
          obtain ⟨g2, e2⟩ := hh' a.eval _ g1
          obtain ⟨hv, _⟩ := hgs.head.own_inv
          obtain ⟨v', cells, hρ, hown, hlen, hone, hesz, hcells⟩ := hm.rel k _ hmem
          rw [hv] at hρ; cases hρ
          refine keep_after hm hmem hv hown hκ hκM e1 e2 h1 h2 (fun ad cap q hx hb => run ho hx hb) (fun v' hown' hρ' hs => ⟨v', cells.take (hh.toNat * j.sz), hρ', ?_, by simp; omega, fun u hu => hone u (List.mem_of_mem_take hu), fun x hx => hesz x (List.mem_of_mem_take hx), fun i' j' x s hx hs' => ?_⟩)
          · simpa [Nat.min_eq_left (show hh.toNat ≤ xs.length by omega)] using hown'
          · rw [List.getElem?_take] at hx
            split at hx
            · rename_i hi'
              obtain ⟨u, hu, hd⟩ := hcells i' j' x s hx hs'
              refine ⟨u, ?_, hd.stp hs⟩
              have hj' : j' < j.sz := by
                have := (List.getElem?_eq_some_iff.1 hs').1
                rw [hesz x (List.mem_of_getElem? hx)] at this; exact this
              have := Nat.mul_le_mul_right j.sz (Nat.succ_le_of_lt hi')
              rw [Nat.succ_mul] at this
              rw [List.getElem?_take, if_pos (by omega)]; exact hu
            · cases hx
        · exact h.elim
      · exact h.elim
    · exact h.elim
  · exact h.elim

end Go.Gs
