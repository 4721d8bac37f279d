/- The builtins len, min, max and append. -/
import Derived.Test.YtlhelkkfjniioaaSnd7
import Derived.Lib.AppendZeros
namespace Go.Gs

/-- There is a state in which the operands are so. -/
def Live (lm : Nat → Option Mem) (svs : List SV) : Prop := ∃ (Keep : Nat → Prop) (M : List (Nat × Mem)) (ρ : Names) (w : World) (vs : List Value),
  (∀ k m, lm k = some m → lookM M k = some m) ∧ MemOK Keep M ρ w ∧ Gs (fun b => Keep b ∨ Own M ρ b) (Own M ρ) ρ w svs vs

theorem run_builtin {P : Program} {o : Oper} {c : Call} {b : Builtin} (ho : o.op = .call c) (hb : c.callee = .builtin b) {a : Act} {w : World} {vs : List Value} (hv : c.args.toList.map a.eval = vs) :
    ∃ cs, (execOp a.eval o).run P w = (builtin b c.argTypes o.type cs vs.toArray).run P w := by
  have h : c.args.map a.eval = vs.toArray := by apply Array.ext'; simp [hv]
  have h2 : ∃ cs, (do let d ← resolve a.eval c o.type; invoke d.target d.args : Sem Next) = builtin b c.argTypes o.type cs (c.args.map a.eval) := by
    unfold resolve; rw [hb]; exact ⟨_, rfl⟩
  obtain ⟨cs, h2⟩ := h2
  refine ⟨cs, ?_⟩
  simp only [execOp, ho]
  rw [h2, h]

theorem gs_args {c : Call} {b : Builtin} (hb : c.callee = .builtin b) {a : Act} {S Pm : Nat → Prop} {ρ : Names} {w : World} {svs : List SV} (h : Gs S Pm ρ w svs ((operandsL (.call c)).map a.eval)) :
    Gs S Pm ρ w svs (c.args.toList.map a.eval) := by simpa [operandsL, hb, calleeL] using h

theorem types_one {tys : Array TypeId} {t : TypeId} (h : tys.toList = [t]) : tys = #[t] := by apply Array.ext'; simpa using h
theorem types_two {tys : Array TypeId} {t u : TypeId} (h : tys.toList = [t, u]) : tys = #[t, u] := by apply Array.ext'; simpa using h

theorem len_run {P : Program} {t e ty : TypeId} (ht : P.underlying t = some (.slice e)) (w : World) (a : Option Addr) (n c : Nat) : (Builtin.len_ #[t] ty #[.slice a n c]).run P w = .ok (.int .i64 n) w := by
  simp [Builtin.len_, run_underlying ht, goInt]

theorem cap_run {P : Program} {t e ty : TypeId} (ht : P.underlying t = some (.slice e)) (w : World) (a : Option Addr) (n c : Nat) : (Builtin.cap_ #[t] ty #[.slice a n c]).run P w = .ok (.int .i64 c) w := by
  simp [Builtin.cap_, run_underlying ht, goInt]

theorem sl_val {S Pm : Nat → Prop} {ρ : Names} {w : World} {α : Type} {enc : α → List SV} {xs : List α} {v : Value} (h : G S Pm ρ w (.sl enc xs) v) :
    xs.length ≤ 9223372036854775807 ∧ ∃ a cap, v = .slice a xs.length cap ∧ xs.length ≤ cap := by
  rcases h.sl_inv.sl_inv with ⟨rfl, a, rfl⟩ | ⟨_, b, o, cap, _, rfl, _, _, h1, h2, _⟩
  · exact ⟨by simp, a, 0, rfl, by simp⟩
  · exact ⟨h1, _, cap, rfl, h2⟩

theorem own_val {Keep : Nat → Prop} {M : List (Nat × Mem)} {ρ : Names} {w : World} (hm : MemOK Keep M ρ w) {k : Nat} {T : TypeId} {α : Type} {enc : α → List SV} {sz : Nat} {xs : List α}
    (hk : (k, Mem.arr T enc sz xs) ∈ M) {v : Value} (hv : ρ k = some v) : xs.length ≤ 281474976710656 ∧ ∃ a cap, v = .slice a xs.length cap ∧ xs.length ≤ cap := by
  obtain ⟨v', cells, hρ, hown, hlen, _⟩ := hm.rel k _ hk
  rw [hv] at hρ; cases hρ
  rcases hown.2 with ⟨rfl, h0⟩ | ⟨g, cap, cur, rfl, _, _, hnc, _⟩
  · have h0 : xs.length = 0 := h0
    exact ⟨hlen, none, 0, by rw [h0], by omega⟩
  · exact ⟨hlen, _, cap, rfl, hnc⟩

theorem own_valG {Keep : Nat → Prop} {M : List (Nat × Mem)} {ρ : Names} {w : World} (hm : MemOK Keep M ρ w) {k : Nat} {T : TypeId} {sz : Nat} {xs : List (List SV)}
    (hk : (k, Mem.garr T sz xs) ∈ M) {v : Value} (hv : ρ k = some v) : xs.length ≤ 281474976710656 ∧ ∃ a cap, v = .slice a xs.length cap ∧ xs.length ≤ cap := by
  obtain ⟨v', cells, hρ, hown, hlen, _⟩ := hm.rel k _ hk
  rw [hv] at hρ; cases hρ
  rcases hown.2 with ⟨rfl, h0⟩ | ⟨g, cap, cur, rfl, _, _, hnc, _⟩
  · have h0 : xs.length = 0 := h0
    exact ⟨hlen, none, 0, by rw [h0], by omega⟩
  · exact ⟨hlen, _, cap, rfl, hnc⟩

theorem ints_elim : ∀ {s : List SV} {K : IntKind → List Int → Prop}, ints s K → ∃ (k : IntKind) (x : Int) (r : List Int), K k (x :: r) ∧
    ∀ {S Pm : Nat → Prop} {ρ : Names} {w : World} {vs : List Value}, Gs S Pm ρ w s vs → ∃ us : List Value, vs = .int k x :: us ∧ us.length = r.length ∧ ∀ (j : Nat) (y : Int), r[j]? = some y → ∃ k', us[j]? = some (.int k' y)
  | [], K, h => by simp [ints] at h
  | s :: r, K, h => by
    unfold ints at h
    split at h
    · rename_i k m r' heq
      cases heq
      split at h
      · refine ⟨k, m, [], h, fun hg => ?_⟩
        obtain ⟨v, vs', rfl, h1, h2⟩ := hg.cons_inv
        exact ⟨[], by rw [h1.val_inv, h2.nil_inv], rfl, fun j y hy => by simp at hy⟩
      · obtain ⟨k2, x2, r2, hK, hg2⟩ := ints_elim h
        refine ⟨k, m, x2 :: r2, hK, fun hg => ?_⟩
        obtain ⟨v, vs', rfl, h1, h2⟩ := hg.cons_inv
        obtain ⟨us, rfl, hl, hy⟩ := hg2 h2
        refine ⟨.int k2 x2 :: us, by rw [h1.val_inv], by simp [hl], fun j y hj => ?_⟩
        cases j with
        | zero => simp at hj; subst hj; exact ⟨k2, rfl⟩
        | succ j => simpa using hy j y (by simpa using hj)
    · exact h.elim

theorem min_fold {P : Program} {w : World} {k : IntKind} : ∀ (r : List Int) (us : List Value) (x : Int), us.length = r.length → (∀ (j : Nat) (y : Int), r[j]? = some y → ∃ k', us[j]? = some (.int k' y)) →
    (us.foldlM Builtin.min2 (.int k x)).run P w = .ok (.int k (minL x r)) w
  | [], us, x, hl, _ => by
    have : us = [] := List.eq_nil_of_length_eq_zero hl
    subst this; simp [minL]
  | y :: r, us, x, hl, hy => by
    cases us with
    | nil => simp at hl
    | cons u us =>
      obtain ⟨k', hu⟩ := hy 0 y rfl
      simp at hu; subst hu
      have hmin : (if y < x then y else x) = min x y := by omega
      simp only [List.foldlM_cons, Builtin.min2, Sem.run_bind, Sem.run_pure, Result.andThen_ok, hmin, minL]
      exact min_fold r us (min x y) (by simpa using hl) (fun j z hz => by simpa using hy (j + 1) z (by simpa using hz))

theorem max_fold {P : Program} {w : World} {k : IntKind} : ∀ (r : List Int) (us : List Value) (x : Int), us.length = r.length → (∀ (j : Nat) (y : Int), r[j]? = some y → ∃ k', us[j]? = some (.int k' y)) →
    (us.foldlM Builtin.max2 (.int k x)).run P w = .ok (.int k (maxL x r)) w
  | [], us, x, hl, _ => by
    have : us = [] := List.eq_nil_of_length_eq_zero hl
    subst this; simp [maxL]
  | y :: r, us, x, hl, hy => by
    cases us with
    | nil => simp at hl
    | cons u us =>
      obtain ⟨k', hu⟩ := hy 0 y rfl
      simp at hu; subst hu
      have hmax : (if y > x then y else x) = max x y := by omega
      simp only [List.foldlM_cons, Builtin.max2, Sem.run_bind, Sem.run_pure, Result.andThen_ok, hmax, maxL]
      exact max_fold r us (max x y) (by simpa using hl) (fun j z hz => by simpa using hy (j + 1) z (by simpa using hz))

/-- What an append reads. -/
def Src (S : Nat → Prop) (w : World) {α : Type} (enc : α → List SV) (sz : Nat) (ys : List α) (v : Value) (news : List Value) : Prop :=
  news.length = ys.length * sz ∧ (∀ u ∈ news, u.oneCell' = true) ∧
  (∀ (i j : Nat) y (s : SV), ys[i]? = some y → (enc y)[j]? = some s → ∃ u, news[i * sz + j]? = some u ∧ D S w s u) ∧
  ((v = .slice none 0 0 ∧ ys = []) ∨ ∃ a c, v = .slice (some a) ys.length c ∧ ∀ (j : Nat) (u : Value), news[j]? = some u → w.cell? (a.add j) = some u)

theorem src_of_d {S : Nat → Prop} {w : World} {α : Type} {enc : α → List SV} {ys : List α} {v : Value} (hd : D S w (.sl enc ys) v) {sz : Nat} (h0 : 0 < sz) (hsz : ∀ x ∈ ys, (enc x).length = sz) :
    ∃ news, Src S w enc sz ys v news := by
  rcases hd.sl_inv with ⟨rfl, a, rfl⟩ | ⟨sz', b, o, cap, c, rfl, hb, hS, hlen, hcap, hesz, hc, he⟩
  · cases a with
    | none => exact ⟨[], by simp, by simp, fun i j y s h => by simp at h, .inl ⟨rfl, rfl⟩⟩
    | some a => exact ⟨[], by simp, by simp, fun i j y s h => by simp at h, .inr ⟨a, 0, rfl, fun j u hu => by simp at hu⟩⟩
  · have hs : ys ≠ [] → sz' = sz := fun hne => by
      obtain ⟨x, hx⟩ := List.exists_mem_of_ne_nil ys hne
      rw [← hesz x hx, ← hsz x hx]
    have hq : ∀ q, q < ys.length * sz → q / sz < ys.length ∧ q % sz < sz ∧ sz' = sz ∧ q / sz * sz + q % sz = q := fun q hq => by
      have h1 : q / sz < ys.length := (Nat.div_lt_iff_lt_mul h0).2 hq
      refine ⟨h1, Nat.mod_lt _ h0, hs (fun e => by rw [e] at h1; simp at h1), ?_⟩
      rw [Nat.mul_comm]; exact Nat.div_add_mod q sz
    refine ⟨(List.range (ys.length * sz)).map fun q => c (q / sz) (q % sz), by simp, ?_, ?_, .inr ⟨_, cap, rfl, ?_⟩⟩
    · intro u hu
      obtain ⟨q, hq', rfl⟩ := List.mem_map.1 hu
      obtain ⟨h1, h2, h3, _⟩ := hq q (List.mem_range.1 hq')
      exact (hc _ _ h1 (h3 ▸ h2)).2
    · intro i j y s hy hs'
      have hi : i < ys.length := (List.getElem?_eq_some_iff.1 hy).1
      have hj : j < sz := by
        have := (List.getElem?_eq_some_iff.1 hs').1
        rw [hsz y (List.mem_of_getElem? hy)] at this; exact this
      have hlt : i * sz + j < ys.length * sz := by
        have := Nat.mul_le_mul_right sz (Nat.succ_le_of_lt hi)
        rw [Nat.succ_mul] at this; omega
      have e1 : (i * sz + j) / sz = i := by rw [Nat.mul_comm, Nat.mul_add_div h0]; simp [Nat.div_eq_of_lt hj]
      have e2 : (i * sz + j) % sz = j := by rw [Nat.mul_comm, Nat.mul_add_mod]; exact Nat.mod_eq_of_lt hj
      refine ⟨c i j, by simp [hlt, e1, e2], he i j y s hy hs'⟩
    · intro q u hu
      have hq' : q < ys.length * sz := by have := (List.getElem?_eq_some_iff.1 hu).1; simpa using this
      obtain ⟨h1, h2, h3, h4⟩ := hq q hq'
      simp [hq'] at hu
      subst hu
      subst h3
      rw [addr_add]
      have := (hc _ _ h1 h2).1
      rw [Nat.add_assoc, h4] at this
      exact this

theorem readAs_src {lm : Nat → Option Mem} {s : SV} {α : Type} {enc : α → List SV} {ys : List α} (h : readAs lm s enc ys) {Keep : Nat → Prop} {M : List (Nat × Mem)} {ρ : Names} {w : World}
    (hlm : ∀ k m, lm k = some m → lookM M k = some m) (hm : MemOK Keep M ρ w) {v : Value} (hg : G (fun b => Keep b ∨ Own M ρ b) (Own M ρ) ρ w s v) {sz : Nat} (h0 : 0 < sz)
    (hsz : ∀ x ∈ ys, (enc x).length = sz) : ∃ news, Src (fun b => Keep b ∨ Own M ρ b) w enc sz ys v news := by
  unfold readAs at h
  split at h
  · subst h
    rw [hg.val_inv]
    exact ⟨[], by simp, by simp, fun i j y s h => by simp at h, .inl ⟨rfl, rfl⟩⟩
  · rename_i k
    simp only [view1] at h
    split at h
    · rename_i T β enc' sz' xs hlk
      cases h
      obtain ⟨hv, _⟩ := hg.own_inv
      obtain ⟨v', cells, hρ, hown, hlen, hone, hesz, hcells⟩ := hm.rel k _ (mem_lookM (hlm k _ hlk))
      rw [hv] at hρ; cases hρ
      rcases hown.2 with ⟨rfl, he⟩ | ⟨g, cap, cur, rfl, _, hheap, hnc, hcm, hcs, htake⟩
      · have : ys = [] := List.eq_nil_of_length_eq_zero he
        subst this
        exact ⟨[], by simp, by simp, fun i j y s h => by simp at h, .inl ⟨rfl, rfl⟩⟩
      · by_cases hne : ys = []
        · subst hne
          exact ⟨[], by simp, by simp, fun i j y s h => by simp at h, .inr ⟨_, cap, rfl, fun j u hu => by simp at hu⟩⟩
        · obtain ⟨x, hx⟩ := List.exists_mem_of_ne_nil ys hne
          have : sz' = sz := by rw [← hesz x hx, ← hsz x hx]
          subst this
          exact ⟨cells, hown.1, hone, hcells, .inr ⟨_, cap, rfl, fun j u hu => by rw [addr_add, Nat.zero_add]; exact own_cell hheap htake hu⟩⟩
    · cases h
  · subst h
    exact src_of_d hg.sl_inv h0 hsz

/-- An append to an owned row. -/
theorem append_run {P : Program} {t ty e : TypeId} {f : TypeInfo} {z : Value} (ht : P.underlying t = some (.slice e)) (hi : P.info? e = some f) (hz : f.zero = some z) (hzs : z.cells.size = f.size)
    {w : World} {v : Value} {n : Nat} {cells : List Value} (hown : w.ownsRow 0 e f.size v n cells) {S : Nat → Prop} {α : Type} {enc : α → List SV} {ys : List α} {vx : Value} {news : List Value}
    (hs : Src S w enc f.size ys vx news) (h63 : n + ys.length ≤ maxLen) (hbytes : (n + ys.length) * f.bytes ≤ 140737488355328) :
    ∃ v' w', (Builtin.append_ #[t, t] ty #[v, vx]).run P w = .ok v' w' ∧ w'.ownsRow 0 e f.size v' (n + ys.length) (cells ++ news) ∧ w'.os = w.os ∧ w'.tape = w.tape ∧ SameOut w w' ∧ w.heap.size ≤ w'.heap.size ∧
      (∀ b, b < w.heap.size → blkOf v ≠ some b → w'.heap[b]? = w.heap[b]?) ∧ (blkOf v' = blkOf v ∨ (blkOf v' = some w.heap.size ∧ w.heap.size < w'.heap.size)) ∧ v'.oneCell' = true := by
  obtain ⟨hl, hone, _, hv⟩ := hs
  have h63' : (n + ys.length : Int) ≤ 9223372036854775807 := by unfold maxLen at h63; omega
  have made : ∀ (old : Nat), old < n + ys.length → (w.drew.alloc (.cells (cells.toArray ++ news.toArray ++ Builtin.zeroCells z.cells (grownCap w (n + ys.length) old e - (n + ys.length))) e)).ownsRow 0 e f.size
        (.slice (some ⟨w.heap.size, 0, none⟩) (n + ys.length) (grownCap w (n + ys.length) old e)) (n + ys.length) (cells ++ news) := by
    intro old _
    have hge := grownCap_ge w (n + ys.length) old e
    have hcl := hown.1
    refine ⟨by rw [List.length_append, hcl, hl, Nat.add_mul], .inr ⟨w.heap.size, _, _, rfl, Nat.zero_le _, heap_alloc_new w.drew _, hge, grownCap_le_maxLen w _ old e h63, ?_, ?_⟩⟩
    · simp only [Array.size_append, List.size_toArray, size_zeroCells, hzs, hcl, hl, ← Nat.add_mul]
      congr 1
      omega
    · simp only [Array.toList_append]
      rw [List.take_append_of_le_length (by simp [hcl, hl, Nat.add_mul])]
      exact List.take_of_length_le (by simp [hcl, hl, Nat.add_mul])
  rcases hv with ⟨rfl, rfl⟩ | ⟨a, c, rfl, hcells⟩
  · have hn : news = [] := List.eq_nil_of_length_eq_zero (by simpa using hl)
    subst hn
    rcases hown.2 with ⟨rfl, h0⟩ | ⟨g, cap, cur, rfl, _, hheap, hnc, hcm, hcs, htake⟩
    · refine ⟨.slice none 0 0, w, ?_, ?_, rfl, rfl, .refl _, Nat.le_refl _, fun _ _ _ => rfl, .inl rfl, rfl⟩
      · simp [Builtin.append_, run_underlying ht, sizeOf, typeInfo, hi, Builtin.lenOf, Builtin.firstCells]
      · subst h0
        have hc0 : cells = [] := List.eq_nil_of_length_eq_zero (by simpa using hown.1)
        subst hc0
        exact World.ownsRow_nil w 0 e f.size
    · refine ⟨.slice (some ⟨g, 0, none⟩) n cap, w, ?_, ?_, rfl, rfl, .refl _, Nat.le_refl _, fun _ _ _ => rfl, .inl rfl, rfl⟩
      · simp [Builtin.append_, run_underlying ht, sizeOf, typeInfo, hi, Builtin.lenOf, Builtin.firstCells, hnc, storeCells]
      · simpa using hown
  · rcases hown.2 with ⟨rfl, rfl⟩ | ⟨g, cap, cur, rfl, _, hheap, hnc, hcm, hcs, htake⟩
    · have hc0 : cells = [] := List.eq_nil_of_length_eq_zero (by simpa using hown.1)
      subst hc0
      by_cases hy : ys.length = 0
      · have hn : news = [] := List.eq_nil_of_length_eq_zero (by simpa [hy] using hl)
        subst hn
        refine ⟨.slice none 0 0, w, ?_, ?_, rfl, rfl, .refl _, Nat.le_refl _, fun _ _ _ => rfl, .inl rfl, rfl⟩
        · simp [Builtin.append_, run_underlying ht, sizeOf, typeInfo, hi, Builtin.lenOf, Builtin.firstCells, hy, loadCells, loadCellsFrom]
        · rw [hy]; exact World.ownsRow_nil w 0 e f.size
      · have hr := run_append_nil (P := P) w t ty e f z ht hi hz a ys.length c news hl hcells (by omega) (by simpa using h63') (by have hb := hbytes; simp only [Nat.zero_add] at hb; omega)
        have hgr := made 0 (by omega)
        simp only [Nat.zero_add, List.nil_append, Array.empty_append] at hgr ⊢
        exact ⟨_, _, hr, hgr, rfl, rfl, .cells w.drew _ _, by simp, fun b hb _ => heap_alloc_old w.drew _ b hb, .inr ⟨rfl, by simp⟩, rfl⟩
    · have hcl := hown.1
      by_cases hroom : n + ys.length ≤ cap
      · have hfit : n * f.size + news.length ≤ cur.size := by rw [hl, hcs, ← Nat.add_mul]; exact Nat.mul_le_mul_right _ hroom
        have hr := run_append_room (P := P) w t ty e f ht hi g n cap cur hheap a ys.length c news hl hcells hone hroom hfit
        refine ⟨_, _, hr, ⟨by rw [List.length_append, hcl, hl, Nat.add_mul], .inr ⟨g, cap, _, rfl, Nat.zero_le _, setRow_heap w g cur _ e _ hheap, hroom, hcm, ?_, ?_⟩⟩, rfl, rfl, .setRow _ _ _, by simp,
          fun b _ hne => setRow_other w g b _ (fun e => hne (by simp [blkOf, e])), .inl rfl, rfl⟩
        · simp only [List.size_toArray, List.length_append, List.length_take, List.length_drop, Array.length_toList]
          omega
        · rw [htake, Nat.add_mul, ← hl, ← hcl]
          rw [List.take_append_of_le_length (by simp)]
          exact List.take_of_length_le (by simp)
      · have holds : ∀ (j : Nat) (u : Value), cells[j]? = some u → w.cell? ((⟨g, 0, none⟩ : Addr).add j) = some u := fun j u hu => by rw [addr_add, Nat.zero_add]; exact own_cell hheap htake hu
        have hr := run_append_grow (P := P) w t ty e f z ht hi hz ⟨g, 0, none⟩ n cap cells hcl holds a ys.length c news hl hcells (by omega) (by push_cast; exact h63') (growslice_fits (by omega) hbytes)
        exact ⟨_, _, hr, made cap (by omega), rfl, rfl, .cells w.drew _ _, by simp, fun b hb _ => heap_alloc_old w.drew _ b hb, .inr ⟨rfl, by simp⟩, rfl⟩

/-- An append to a slice without room. -/
theorem append_nils {P : Program} {t ty e : TypeId} {f : TypeInfo} {z : Value} (ht : P.underlying t = some (.slice e)) (hi : P.info? e = some f) (hz : f.zero = some z) (hzs : z.cells.size = f.size)
    {w : World} (ad : Option Addr) {S : Nat → Prop} {α : Type} {enc : α → List SV} {ys : List α} {vx : Value} {news : List Value}
    (hs : Src S w enc f.size ys vx news) (hne : ys ≠ []) (h63 : ys.length ≤ maxLen) (hbytes : ys.length * f.bytes ≤ 140737488355328) :
    ∃ v' w', (Builtin.append_ #[t, t] ty #[.slice ad 0 0, vx]).run P w = .ok v' w' ∧ w'.ownsRow 0 e f.size v' ys.length news ∧ w'.os = w.os ∧ w'.tape = w.tape ∧ SameOut w w' ∧ w.heap.size ≤ w'.heap.size ∧
      (∀ b, b < w.heap.size → w'.heap[b]? = w.heap[b]?) ∧ (blkOf v' = some w.heap.size ∧ w.heap.size < w'.heap.size) ∧ v'.oneCell' = true := by
  obtain ⟨hl, hone, _, hv⟩ := hs
  have h63' : (ys.length : Int) ≤ 9223372036854775807 := by unfold maxLen at h63; omega
  have hpos : 0 < ys.length := List.length_pos_iff.2 hne
  have made : (w.drew.alloc (.cells (news.toArray ++ Builtin.zeroCells z.cells (grownCap w ys.length 0 e - ys.length)) e)).ownsRow 0 e f.size
        (.slice (some ⟨w.heap.size, 0, none⟩) ys.length (grownCap w ys.length 0 e)) ys.length news := by
    have hge := grownCap_ge w ys.length 0 e
    refine ⟨hl, .inr ⟨w.heap.size, _, _, rfl, Nat.zero_le _, heap_alloc_new w.drew _, hge, grownCap_le_maxLen w _ 0 e h63, ?_, ?_⟩⟩
    · simp only [Array.size_append, List.size_toArray, size_zeroCells, hzs, hl, ← Nat.add_mul]
      congr 1
      omega
    · simp only [Array.toList_append]
      rw [List.take_append_of_le_length (by simp [hl])]
      exact List.take_of_length_le (by simp [hl])
  rcases hv with ⟨_, rfl⟩ | ⟨a, c, rfl, hcells⟩
  · exact absurd rfl hne
  · cases ad with
    | none =>
      have hr := run_append_nil (P := P) w t ty e f z ht hi hz a ys.length c news hl hcells (by omega) h63' (by omega)
      exact ⟨_, _, hr, made, rfl, rfl, .cells w.drew _ _, by simp, fun b hb => heap_alloc_old w.drew _ b hb, ⟨rfl, by simp⟩, rfl⟩
    | some g =>
      have hr := run_append_grow (P := P) w t ty e f z ht hi hz g 0 0 [] (by simp) (fun j u hu => by simp at hu) a ys.length c news hl hcells (by omega) (by simpa using h63') (growslice_fits (by omega) (by simpa using hbytes))
      simp only [Nat.zero_add, Array.empty_append] at hr
      exact ⟨_, _, hr, made, rfl, rfl, .cells w.drew _ _, by simp, fun b hb => heap_alloc_old w.drew _ b hb, ⟨rfl, by simp⟩, rfl⟩

/-- Behind a slice of data whose capacity is its length. -/
theorem append_full {P : Program} {t ty e : TypeId} {f : TypeInfo} {z : Value} (ht : P.underlying t = some (.slice e)) (hi : P.info? e = some f) (hz : f.zero = some z) (hzs : z.cells.size = f.size)
    {w : World} (ad : Option Addr) {S : Nat → Prop} {α : Type} {enc : α → List SV} {xs ys : List α} {vx : Value} {olds news : List Value}
    (ho : Src S w enc f.size xs (.slice ad xs.length xs.length) olds) (hs : Src S w enc f.size ys vx news) (hne : ys ≠ []) (h63 : xs.length + ys.length ≤ maxLen) (hbytes : (xs.length + ys.length) * f.bytes ≤ 140737488355328) :
    ∃ v' w', (Builtin.append_ #[t, t] ty #[.slice ad xs.length xs.length, vx]).run P w = .ok v' w' ∧ w'.ownsRow 0 e f.size v' (xs.length + ys.length) (olds ++ news) ∧ w'.os = w.os ∧ w'.tape = w.tape ∧ SameOut w w' ∧ w.heap.size ≤ w'.heap.size ∧
      (∀ b, b < w.heap.size → w'.heap[b]? = w.heap[b]?) ∧ (blkOf v' = some w.heap.size ∧ w.heap.size < w'.heap.size) ∧ v'.oneCell' = true := by
  obtain ⟨hl, hone, _, hv⟩ := hs
  obtain ⟨hol, _, _, hov⟩ := ho
  have h63' : (xs.length + ys.length : Int) ≤ 9223372036854775807 := by unfold maxLen at h63; omega
  have hpos : 0 < ys.length := List.length_pos_iff.2 hne
  have made : ∀ old : Nat, (w.drew.alloc (.cells (olds.toArray ++ news.toArray ++ Builtin.zeroCells z.cells (grownCap w (xs.length + ys.length) old e - (xs.length + ys.length))) e)).ownsRow 0 e f.size
        (.slice (some ⟨w.heap.size, 0, none⟩) (xs.length + ys.length) (grownCap w (xs.length + ys.length) old e)) (xs.length + ys.length) (olds ++ news) := by
    intro old
    have hge := grownCap_ge w (xs.length + ys.length) old e
    refine ⟨by rw [List.length_append, hol, hl, Nat.add_mul], .inr ⟨w.heap.size, _, _, rfl, Nat.zero_le _, heap_alloc_new w.drew _, hge, grownCap_le_maxLen w _ old e h63, ?_, ?_⟩⟩
    · simp only [Array.size_append, List.size_toArray, size_zeroCells, hzs, hol, hl, ← Nat.add_mul]
      congr 1
      omega
    · simp only [Array.toList_append]
      rw [List.take_append_of_le_length (by simp [hol, hl, Nat.add_mul])]
      exact List.take_of_length_le (by simp [hol, hl, Nat.add_mul])
  rcases hv with ⟨_, rfl⟩ | ⟨a, c, rfl, hcells⟩
  · exact absurd rfl hne
  · cases ad with
    | none =>
      have hx0 : xs = [] := by
        rcases hov with ⟨_, h⟩ | ⟨_, _, h, _⟩
        · exact h
        · cases h
      subst hx0
      have ho0 : olds = [] := List.eq_nil_of_length_eq_zero (by simpa using hol)
      subst ho0
      have hr := run_append_nil (P := P) w t ty e f z ht hi hz a ys.length c news hl hcells (by omega) (by simpa using h63') (by simp only [List.length_nil, Nat.zero_add] at hbytes; omega)
      have := made 0
      simp only [List.length_nil, Nat.zero_add, List.nil_append] at this
      refine ⟨_, _, hr, ?_, rfl, rfl, .cells w.drew _ _, by simp, fun b hb => heap_alloc_old w.drew _ b hb, ⟨rfl, by simp⟩, rfl⟩
      simpa using this
    | some g =>
      have hcell : ∀ (j : Nat) (u : Value), olds[j]? = some u → w.cell? (g.add j) = some u := by
        rcases hov with ⟨h, _⟩ | ⟨a', c', h, hc⟩
        · cases h
        · cases h; exact hc
      have hr := run_append_grow (P := P) w t ty e f z ht hi hz g xs.length xs.length olds (by simp [hol]) hcell a ys.length c news hl hcells (by omega) (by simpa using h63') (growslice_fits (by omega) (by simpa using hbytes))
      exact ⟨_, _, hr, made _, rfl, rfl, .cells w.drew _ _, by simp, fun b hb => heap_alloc_old w.drew _ b hb, ⟨rfl, by simp⟩, rfl⟩

theorem builtin_sound {P : Program} {Γ : List (TypeId × TI)} (hT : TOK P Γ) {c : Call} {b : Builtin} (hb : c.callee = .builtin b) {svs : List SV} {lm : Nat → Option Mem} {κ : Nat} {K : SV → MD → Prop}
    (hlive : Live lm svs) (h : builtinV Γ b c.argTypes.toList svs lm κ K) : ∃ r md, K r md ∧ OpOK P (.call c) svs lm κ r md := by
  obtain ⟨Keep0, M0, ρ0, w0, vs0, hlm0, hm0, hg0⟩ := hlive
  unfold builtinV at h
  split at h
  · rename_i s
    split at h
    · rename_i t htys
      have htys := types_one htys
      replace h := withT_elim h; obtain ⟨i, hi, h⟩ := h
      have hk := (hT t i hi).kind
      split at h
      · rename_i e hkind
        rw [hkind] at hk
        have hk : P.underlying t = some (.slice e) := hk
        unfold lenOf at h
        split at h
        · rename_i α enc xs
          obtain ⟨v0, vs0', rfl, g0, _⟩ := hg0.cons_inv
          refine ⟨_, _, h (sl_val g0).1, .pure fun o ho S Pm ρ a w hgs => ?_⟩
          have hgs := gs_args hb hgs
          obtain ⟨v, vs', hvs, g, gr⟩ := hgs.cons_inv
          obtain ⟨_, ad, cap, hv, _⟩ := sl_val g
          obtain ⟨cs, hr⟩ := run_builtin (P := P) (w := w) ho hb hvs
          refine ⟨_, ?_, (Good.val _).g⟩
          rw [hr, gr.nil_inv, hv, htys]
          simp only [builtin, Sem.run_bind, len_run hk w ad _ cap, Result.andThen_ok, Sem.run_pure]
        · rename_i k
          split at h
          · rename_i T α enc sz xs hlk
            obtain ⟨v0, vs0', rfl, g0, _⟩ := hg0.cons_inv
            refine ⟨_, _, h (own_val hm0 (mem_lookM (hlm0 k _ hlk)) g0.own_inv.1).1, .read fun o ho Keep M ρ a w hlm hm hgs => ?_⟩
            have hgs := gs_args hb hgs
            obtain ⟨v, vs', hvs, g, gr⟩ := hgs.cons_inv
            obtain ⟨_, ad, cap, hv, _⟩ := own_val hm (hlm k _ hlk) g.own_inv.1
            obtain ⟨cs, hr⟩ := run_builtin (P := P) (w := w) ho hb hvs
            refine ⟨_, ?_, (Good.val _).g⟩
            rw [hr, gr.nil_inv, hv, htys]
            simp only [builtin, Sem.run_bind, len_run hk w ad _ cap, Result.andThen_ok, Sem.run_pure]
          · rename_i T sz xs hlk
            obtain ⟨v0, vs0', rfl, g0, _⟩ := hg0.cons_inv
            refine ⟨_, _, h (own_valG hm0 (mem_lookM (hlm0 k _ hlk)) g0.own_inv.1).1, .read fun o ho Keep M ρ a w hlm hm hgs => ?_⟩
            have hgs := gs_args hb hgs
            obtain ⟨v, vs', hvs, g, gr⟩ := hgs.cons_inv
            obtain ⟨_, ad, cap, hv, _⟩ := own_valG hm (hlm k _ hlk) g.own_inv.1
            obtain ⟨cs, hr⟩ := run_builtin (P := P) (w := w) ho hb hvs
            refine ⟨_, ?_, (Good.val _).g⟩
            rw [hr, gr.nil_inv, hv, htys]
            simp only [builtin, Sem.run_bind, len_run hk w ad _ cap, Result.andThen_ok, Sem.run_pure]
          · exact h.elim
        · refine ⟨_, _, h, .pure fun o ho S Pm ρ a w hgs => ?_⟩
          have hgs := gs_args hb hgs
          obtain ⟨v, vs', hvs, g, gr⟩ := hgs.cons_inv
          obtain ⟨cs, hr⟩ := run_builtin (P := P) (w := w) ho hb hvs
          refine ⟨_, ?_, (Good.val _).g⟩
          rw [hr, gr.nil_inv, g.val_inv, htys]
          simp only [builtin, Sem.run_bind, len_run hk w none 0 0, Result.andThen_ok, Sem.run_pure]
          rfl
        · refine ⟨_, _, h, .pure fun o ho S Pm ρ a w hgs => ?_⟩
          have hgs := gs_args hb hgs
          obtain ⟨v, vs', hvs, g, gr⟩ := hgs.cons_inv
          obtain ⟨cs, hr⟩ := run_builtin (P := P) (w := w) ho hb hvs
          obtain ⟨ad, hv⟩ := g.nils_inv
          refine ⟨_, ?_, (Good.val _).g⟩
          rw [hr, gr.nil_inv, hv, htys]
          simp only [builtin, Sem.run_bind, len_run hk w ad 0 0, Result.andThen_ok, Sem.run_pure]
          rfl
        · rename_i k sz lo n
          obtain ⟨h0, h⟩ := h
          refine ⟨_, _, h, .pure fun o ho S Pm ρ a w hgs => ?_⟩
          have hgs := gs_args hb hgs
          obtain ⟨v, vs', hvs, g, gr⟩ := hgs.cons_inv
          obtain ⟨cs, hr⟩ := run_builtin (P := P) (w := w) ho hb hvs
          obtain ⟨b, len, cap, cap', _, hv, _⟩ := g.win_inv
          refine ⟨_, ?_, (Good.val _).g⟩
          rw [hr, gr.nil_inv, hv, htys]
          simp only [builtin, Sem.run_bind, len_run hk w (some ⟨b, lo.toNat * sz, none⟩) n.toNat cap', Result.andThen_ok, Sem.run_pure]
          rw [Int.toNat_of_nonneg h0]
        · exact h.elim
      · exact h.elim
    · exact h.elim
  · rename_i s
    split at h
    · rename_i t htys
      have htys := types_one htys
      replace h := withT_elim h; obtain ⟨i, hi, h⟩ := h
      have hk := (hT t i hi).kind
      split at h
      · rename_i e hkind
        rw [hkind] at hk
        have hk : P.underlying t = some (.slice e) := hk
        split at h
        · refine ⟨_, _, h, .pure fun o ho S Pm ρ a w hgs => ?_⟩
          have hgs := gs_args hb hgs
          obtain ⟨v, vs', hvs, g, gr⟩ := hgs.cons_inv
          obtain ⟨cs, hr⟩ := run_builtin (P := P) (w := w) ho hb hvs
          refine ⟨_, ?_, (Good.val _).g⟩
          rw [hr, gr.nil_inv, g.val_inv, htys]
          simp only [builtin, Sem.run_bind, cap_run hk w none 0 0, Result.andThen_ok, Sem.run_pure]
          rfl
        · refine ⟨_, _, h, .pure fun o ho S Pm ρ a w hgs => ?_⟩
          have hgs := gs_args hb hgs
          obtain ⟨v, vs', hvs, g, gr⟩ := hgs.cons_inv
          obtain ⟨cs, hr⟩ := run_builtin (P := P) (w := w) ho hb hvs
          obtain ⟨ad, hv⟩ := g.nils_inv
          refine ⟨_, ?_, (Good.val _).g⟩
          rw [hr, gr.nil_inv, hv, htys]
          simp only [builtin, Sem.run_bind, cap_run hk w ad 0 0, Result.andThen_ok, Sem.run_pure]
          rfl
        · exact h.elim
      · exact h.elim
    · exact h.elim
  · rename_i s _
    obtain ⟨k, x, r, hK, he⟩ := ints_elim h
    refine ⟨_, _, hK, .pure fun o ho S Pm ρ a w hgs => ?_⟩
    have hgs := gs_args hb hgs
    obtain ⟨us, hvs, hl, hy⟩ := he hgs
    obtain ⟨cs, hr⟩ := run_builtin (P := P) (w := w) ho hb hvs
    refine ⟨_, ?_, (Good.val _).g⟩
    rw [hr]
    simp only [builtin, Builtin.min_, Sem.run_bind, min_fold r us x hl hy, Result.andThen_ok, Sem.run_pure]
  · rename_i s _
    obtain ⟨k, x, r, hK, he⟩ := ints_elim h
    refine ⟨_, _, hK, .pure fun o ho S Pm ρ a w hgs => ?_⟩
    have hgs := gs_args hb hgs
    obtain ⟨us, hvs, hl, hy⟩ := he hgs
    obtain ⟨cs, hr⟩ := run_builtin (P := P) (w := w) ho hb hvs
    refine ⟨_, ?_, (Good.val _).g⟩
    rw [hr]
    simp only [builtin, Builtin.max_, Sem.run_bind, max_fold r us x hl hy, Result.andThen_ok, Sem.run_pure]
  · rename_i s x
    split at h
    · rename_i kx n
      unfold appendZ at h
      split at h
      · rename_i t t' htys
        have htys := types_two htys
        replace h := withT_elim h; obtain ⟨i, hi, h⟩ := h
        replace h := withT_elim h; obtain ⟨i', hi', h⟩ := h
        have hk := (hT t i hi).kind
        have hk' := (hT t' i' hi').kind
        split at h
        · rename_i e kn hkind hkind'
          rw [hkind] at hk
          rw [hkind'] at hk'
          have hk : P.underlying t = some (.slice e) := hk
          have hk' : P.underlying t' = some (.int kn) := hk'
          replace h := withT_elim h; obtain ⟨j, hj, h⟩ := h
          obtain ⟨f, h1, h2, h3, z, h4, h5, h6, h7, h8⟩ := (hT e j hj).inf
          have hzl : z.cells = j.zero.toArray := by rw [← h5]
          have hzs : z.cells.size = f.size := by rw [h2, ← h7, ← h5]; simp
          obtain ⟨α, enc, x0, hz, h⟩ := h
          obtain ⟨e0, e1, e2, e3⟩ := h.ob
          refine ⟨_, _, h.go, fun o ho Keep M ρ a w hlm hm hκ hκM hgs => ?_⟩
          replace hκ := hκ rfl; replace hκM := hκM rfl
          have hgs := gs_args hb hgs
          obtain ⟨v, vs', hvs, g, gr⟩ := hgs.cons_inv
          obtain ⟨vx, vs'', hvs', gx, gn⟩ := gr.cons_inv
          subst hvs'
          have hn := gn.nil_inv
          subst hn
          obtain ⟨cs, hr⟩ := run_builtin (P := P) (w := w) ho hb hvs
          rw [g.val_inv, gx.val_inv] at hr
          obtain ⟨N, hN⟩ : ∃ N : Nat, n = N := ⟨n.toNat, by omega⟩
          subst hN
          have hbytes : N * f.bytes ≤ 140737488355328 := by rw [h3]; exact Int.ofNat_le.1 (by rw [Int.natCast_mul]; exact e2)
          have hrun := Lib.run_append_nil_zeros (P := P) w t t' o.type e f z kx kn hk hk' h1 h4 N (by omega) (by omega) (by omega) (by omega)
          refine Does.value (by rw [hr, htys]; simp only [builtin, Sem.run_bind, hrun, Result.andThen_ok, Sem.run_pure]; rfl) ?_
          have hge := grownCap_ge w N 0 e
          have hmg : ∀ q, (Builtin.zeroCells z.cells N).toList[q]? = if q < N * j.sz then j.zero[q % j.sz]? else none := fun q => by
            have := made_get j.zero N q
            rw [h7] at this
            rw [← this, hzl]
            unfold madeCells Builtin.zeroCells
            simp [h7]
          refine After.push (u := .slice (some ⟨w.heap.size, 0, none⟩) N (grownCap w N 0 e)) (hm.grow (fun _ h => h) hm.keys hκ hκM _ _ _ rfl rfl (.cells w.drew _ _) (by simp) (fun b hb _ => heap_alloc_old w.drew _ b hb)
            (fun k m v b g1 g2 g3 => heap_alloc_old w.drew _ b (hm.old b ⟨k, m, v, g1, g2, g3⟩).1) ?_ ?_) (.own _ _ upd_same rfl)
          · intro b hb
            have hb : b = w.heap.size := by simp [blkOf] at hb; exact hb.symm
            subst hb
            exact ⟨.inr (Nat.le_refl _), by simp, fun k m v1 g1 g2 g3 => by have := (hm.old _ ⟨k, m, v1, g1, g2, g3⟩).1; omega⟩
          · intro hs
            refine ⟨_, (Builtin.zeroCells z.cells N).toList, upd_same, ⟨by rw [Array.length_toList, size_zeroCells, hzs, h2, List.length_replicate, Int.toNat_natCast], .inr ⟨w.heap.size, grownCap w N 0 e, _, by rw [List.length_replicate, Int.toNat_natCast], Nat.zero_le _, heap_alloc_new w.drew _, by simpa using hge, grownCap_le_maxLen w _ 0 e (by unfold maxLen; omega), ?_, ?_⟩⟩, by simp; omega,
              fun u hu => ?_, fun x hx => by rw [List.eq_of_mem_replicate hx, hz]; simp [vals, h7], fun p q x s hx hs' => ?_⟩
            · simp only [Array.size_append, size_zeroCells, hzs, h2, ← Nat.add_mul]
              congr 1
              omega
            · simp only [Array.toList_append, List.length_replicate, Int.toNat_natCast]
              rw [List.take_append_of_le_length (by simp [size_zeroCells, hzs, h2])]
              exact List.take_of_length_le (by simp [size_zeroCells, hzs, h2])
            · obtain ⟨q, hq, rfl⟩ := List.mem_iff_getElem.1 hu
              have := hmg q
              rw [List.getElem?_eq_getElem hq] at this
              split at this
              · exact h8 _ (List.mem_of_getElem? this.symm)
              · cases this
            · have hxm := List.eq_of_mem_replicate (List.mem_of_getElem? hx)
              subst hxm
              have hp : p < N := by simpa using (List.getElem?_eq_some_iff.1 hx).1
              have hqj : q < j.sz := by
                have := (List.getElem?_eq_some_iff.1 hs').1
                rw [hz] at this; simpa [vals, h7] using this
              have h9 : p * j.sz + j.sz ≤ N * j.sz := by
                have := Nat.mul_le_mul_right j.sz (show p + 1 ≤ N by omega)
                rw [Nat.succ_mul] at this; exact this
              have hmod : (p * j.sz + q) % j.sz = q := by rw [Nat.mul_comm, Nat.mul_add_mod]; exact Nat.mod_eq_of_lt hqj
              rw [hmg, if_pos (by omega), hmod]
              rw [hz] at hs'
              simp only [vals, List.getElem?_map] at hs'
              cases hu : j.zero[q]? with
              | none => simp [hu] at hs'
              | some u =>
                simp [hu] at hs'
                subst hs'
                exact ⟨u, rfl, .val u⟩
        · exact h.elim
      · exact h.elim
    unfold appendV at h
    split at h
    · rename_i t t' htys
      have htys := types_two htys
      replace h := guardB_elim h; obtain ⟨hteq, h⟩ := h
      have hteq := Nat.eq_of_beq_eq_true hteq
      subst hteq
      replace h := withT_elim h; obtain ⟨i, hi, h⟩ := h
      have hk := (hT t i hi).kind
      split at h
      · rename_i e hkind
        rw [hkind] at hk
        have hk : P.underlying t = some (.slice e) := hk
        replace h := withT_elim h; obtain ⟨j, hj, h⟩ := h
        obtain ⟨f, h1, h2, h3, z, h4, h5, h6, h7, h8⟩ := (hT e j hj).inf
        have hzs : z.cells.size = f.size := by rw [h2, ← h7, ← h5]; simp
        split at h
        · obtain ⟨α, enc, ys, hra, h⟩ := h
          obtain ⟨e1, e2, e3, e4⟩ := h.ob
          refine ⟨_, _, h.go, fun o ho Keep M ρ a w hlm hm hκ hκM hgs => ?_⟩
          replace hκ := hκ rfl; replace hκM := hκM rfl
          have hgs := gs_args hb hgs
          obtain ⟨v, vs', hvs, g, gr⟩ := hgs.cons_inv
          obtain ⟨vx, vs'', hvs', gx, gn⟩ := gr.cons_inv
          subst hvs'
          have hn := gn.nil_inv
          subst hn
          obtain ⟨news, hsrc⟩ := readAs_src hra hlm hm gx e3 e4
          obtain ⟨cs, hr⟩ := run_builtin (P := P) (w := w) ho hb hvs
          rw [g.val_inv] at hr
          have hb' : (0 + ys.length) * f.bytes ≤ 140737488355328 := by rw [h3, Nat.zero_add]; omega
          obtain ⟨v', w', hrun, hown, q1, q2, q3, q4, q5, q6, q7⟩ := append_run (ty := o.type) hk h1 h4 hzs (World.ownsRow_nil w 0 e f.size) (h2 ▸ hsrc) (by unfold maxLen; omega) hb'
          refine Does.value (v := v') (w' := w') (by rw [hr, htys]; simp only [builtin, Sem.run_bind, hrun, Result.andThen_ok, Sem.run_pure]) ?_
          refine After.push (u := v') (hm.grow (fun _ h => h) hm.keys hκ hκM v' _ w' q1 q2 q3 q4 (fun b hb _ => q5 b hb (by simp [blkOf])) (fun k m v b g1 g2 g3 => q5 b (hm.old b ⟨k, m, v, g1, g2, g3⟩).1 (by simp [blkOf])) ?_ ?_) (.own _ _ upd_same q7)
          · intro b hb
            rcases q6 with q6 | ⟨q6, q8⟩
            · rw [hb] at q6; simp [blkOf] at q6
            · rw [hb] at q6; cases q6
              exact ⟨.inr (Nat.le_refl _), q8, fun k m v1 g1 g2 g3 => by have := (hm.old _ ⟨k, m, v1, g1, g2, g3⟩).1; omega⟩
          · intro hs
            refine ⟨v', news, upd_same, by rw [← h2]; simpa using hown, e2, hsrc.2.1, e4, fun p q y s' hy hs' => ?_⟩
            obtain ⟨u, hu, hd⟩ := hsrc.2.2.1 p q y s' hy hs'
            exact ⟨u, hu, hd.stp hs⟩
        · rename_i k
          split at h
          · rename_i e' α enc sz xs hlk
            replace h := guardB_elim h; obtain ⟨hee, h⟩ := h
            replace h := guardB_elim h; obtain ⟨hss, h⟩ := h
            have hee := Nat.eq_of_beq_eq_true hee
            have hss := Nat.eq_of_beq_eq_true hss
            subst hee
            obtain ⟨ys, hra, h⟩ := h
            obtain ⟨e1, e2, e3, e4⟩ := h.ob
            refine ⟨_, _, h.go, fun o ho Keep M ρ a w hlm hm hκ hκM hgs => ?_⟩
            replace hκ := hκ rfl; replace hκM := hκM rfl
            have hmem := mem_lookM (hlm k _ hlk)
            have hgs := gs_args hb hgs
            obtain ⟨v, vs', hvs, g, gr⟩ := hgs.cons_inv
            obtain ⟨vx, vs'', hvs', gx, gn⟩ := gr.cons_inv
            subst hvs'
            have hn := gn.nil_inv
            subst hn
            obtain ⟨news, hsrc⟩ := readAs_src hra hlm hm gx e3 e4
            obtain ⟨cs, hr⟩ := run_builtin (P := P) (w := w) ho hb hvs
            obtain ⟨hv, _⟩ := g.own_inv
            obtain ⟨v0, cells, hρ, hown, hnl, hone0, hesz, hcells⟩ := hm.rel k _ hmem
            rw [hv] at hρ; cases hρ
            have hb' : (xs.length + ys.length) * f.bytes ≤ 140737488355328 := by rw [h3]; exact Int.ofNat_le.1 (by rw [Int.natCast_mul, Int.natCast_add]; exact e1)
            have hsf : sz = f.size := by rw [hss, h2]
            subst hsf
            obtain ⟨v', w', hrun, hown', q1, q2, q3, q4, q5, q6, q7⟩ := append_run (ty := o.type) hk h1 h4 hzs hown (h2 ▸ hsrc) (by unfold maxLen; omega) hb'
            refine Does.value (v := v') (w' := w') (by rw [hr, htys]; simp only [builtin, Sem.run_bind, hrun, Result.andThen_ok, Sem.run_pure]) ?_
            have hgrow := hm.grow (M1 := dropM M k) (fun x hx => mem_dropM x hx) (pairwise_dropM hm.keys) hκ hκM v' (.arr e enc f.size (xs ++ ys)) w' q1 q2 q3 q4
              (fun b hb hn => q5 b hb (fun hvb => hn ⟨k, _, v, hmem, hv, hvb⟩))
              (fun k' m v1 b g1 g2 g3 => q5 b (hm.old b ⟨k', m, v1, mem_dropM _ g1, g2, g3⟩).1 (fun hvb => hm.apart k' m k _ v1 v b (mem_dropM _ g1) hmem (dropM_ne hm.keys _ g1) g2 hv g3 hvb))
              (fun b hb => by
                rcases q6 with q6 | ⟨q6, q8⟩
                · rw [hb] at q6
                  have ho : Own M ρ b := ⟨k, _, v, hmem, hv, q6.symm⟩
                  exact ⟨.inl ho, Nat.lt_of_lt_of_le (hm.old b ho).1 q4, fun k' m v1 g1 g2 g3 => hm.apart k' m k _ v1 v b (mem_dropM _ g1) hmem (dropM_ne hm.keys _ g1) g2 hv g3 q6.symm⟩
                · rw [hb] at q6; cases q6
                  exact ⟨.inr (Nat.le_refl _), q8, fun k' m v1 g1 g2 g3 => by have := (hm.old _ ⟨k', m, v1, mem_dropM _ g1, g2, g3⟩).1; omega⟩)
              (fun hs => by
                refine ⟨v', cells ++ news, upd_same, by simpa using hown', by simp; omega, fun u hu => ?_, fun x hx => ?_, fun p q x s' hx hs' => ?_⟩
                · rcases List.mem_append.1 hu with hu | hu
                  · exact hone0 u hu
                  · exact hsrc.2.1 u hu
                · rcases List.mem_append.1 hx with hx | hx
                  · exact hesz x hx
                  · rw [e4 x hx, h2]
                · have hl := hown.1
                  rw [List.getElem?_append] at hx
                  split at hx
                  · obtain ⟨u, hu, hd⟩ := hcells p q x s' hx hs'
                    refine ⟨u, ?_, hd.stp hs⟩
                    have : p * f.size + q < cells.length := (List.getElem?_eq_some_iff.1 hu).1
                    rw [List.getElem?_append_left this]; exact hu
                  · rename_i hge
                    obtain ⟨u, hu, hd⟩ := hsrc.2.2.1 (p - xs.length) q x s' hx hs'
                    refine ⟨u, ?_, hd.stp hs⟩
                    have hge : xs.length ≤ p := by omega
                    have hmul : p * f.size = xs.length * f.size + (p - xs.length) * f.size := by rw [← Nat.add_mul]; congr 1; omega
                    rw [List.getElem?_append_right (by rw [hl, hmul]; omega), hl, hmul, show xs.length * f.size + (p - xs.length) * f.size + q - xs.length * f.size = (p - xs.length) * f.size + q by omega, h2]
                    exact hu)
            exact ⟨upd ρ κ v', hgrow.1, hgrow.2, .own _ _ upd_same q7, fun k' hk' => by
              rcases hk' with hk' | hk'
              · exact upd_ne hk'
              · simp [appK] at hk'⟩
          · rename_i e' sz xs hlk
            replace h := guardB_elim h; obtain ⟨hee, h⟩ := h
            replace h := guardB_elim h; obtain ⟨hss, h⟩ := h
            have hee := Nat.eq_of_beq_eq_true hee
            have hss := Nat.eq_of_beq_eq_true hss
            subst hee
            obtain ⟨α, enc, ys, hra, h⟩ := h
            obtain ⟨e1, e2, e3, e4⟩ := h.ob
            refine ⟨_, _, h.go, fun o ho Keep M ρ a w hlm hm hκ hκM hgs => ?_⟩
            replace hκ := hκ rfl; replace hκM := hκM rfl
            have hmem := mem_lookM (hlm k _ hlk)
            have hgs := gs_args hb hgs
            obtain ⟨v, vs', hvs, g, gr⟩ := hgs.cons_inv
            obtain ⟨vx, vs'', hvs', gx, gn⟩ := gr.cons_inv
            subst hvs'
            have hn := gn.nil_inv
            subst hn
            obtain ⟨news, hsrc⟩ := readAs_src hra hlm hm gx e3 e4
            obtain ⟨cs, hr⟩ := run_builtin (P := P) (w := w) ho hb hvs
            obtain ⟨hv, _⟩ := g.own_inv
            obtain ⟨v0, cells, hρ, hown, hnl, hone0, hesz, hcells⟩ := hm.rel k _ hmem
            rw [hv] at hρ; cases hρ
            have hb' : (xs.length + ys.length) * f.bytes ≤ 140737488355328 := by rw [h3]; exact Int.ofNat_le.1 (by rw [Int.natCast_mul, Int.natCast_add]; exact e1)
            have hsf : sz = f.size := by rw [hss, h2]
            subst hsf
            obtain ⟨v', w', hrun, hown', q1, q2, q3, q4, q5, q6, q7⟩ := append_run (ty := o.type) hk h1 h4 hzs hown (h2 ▸ hsrc) (by unfold maxLen; omega) hb'
            refine Does.value (v := v') (w' := w') (by rw [hr, htys]; simp only [builtin, Sem.run_bind, hrun, Result.andThen_ok, Sem.run_pure]) ?_
            have hgrow := hm.grow (M1 := dropM M k) (fun x hx => mem_dropM x hx) (pairwise_dropM hm.keys) hκ hκM v' (.garr e f.size (xs ++ ys.map enc)) w' q1 q2 q3 q4
              (fun b hb hn => q5 b hb (fun hvb => hn ⟨k, _, v, hmem, hv, hvb⟩))
              (fun k' m v1 b g1 g2 g3 => q5 b (hm.old b ⟨k', m, v1, mem_dropM _ g1, g2, g3⟩).1 (fun hvb => hm.apart k' m k _ v1 v b (mem_dropM _ g1) hmem (dropM_ne hm.keys _ g1) g2 hv g3 hvb))
              (fun b hb => by
                rcases q6 with q6 | ⟨q6, q8⟩
                · rw [hb] at q6
                  have ho : Own M ρ b := ⟨k, _, v, hmem, hv, q6.symm⟩
                  exact ⟨.inl ho, Nat.lt_of_lt_of_le (hm.old b ho).1 q4, fun k' m v1 g1 g2 g3 => hm.apart k' m k _ v1 v b (mem_dropM _ g1) hmem (dropM_ne hm.keys _ g1) g2 hv g3 q6.symm⟩
                · rw [hb] at q6; cases q6
                  exact ⟨.inr (Nat.le_refl _), q8, fun k' m v1 g1 g2 g3 => by have := (hm.old _ ⟨k', m, v1, mem_dropM _ g1, g2, g3⟩).1; omega⟩)
              (fun hs => by
                refine ⟨v', cells ++ news, upd_same, by simpa using hown', by simp; omega, fun u hu => ?_, fun x hx => ?_, fun p q x s' hx hs' => ?_⟩
                · rcases List.mem_append.1 hu with hu | hu
                  · exact hone0 u hu
                  · exact hsrc.2.1 u hu
                · rcases List.mem_append.1 hx with hx | hx
                  · exact hesz x hx
                  · obtain ⟨y, hy, rfl⟩ := List.mem_map.1 hx
                    rw [e4 y hy, h2]
                · have hl := hown.1
                  rw [List.getElem?_append] at hx
                  split at hx
                  · obtain ⟨u, hu, hd⟩ := hcells p q x s' hx hs'
                    refine ⟨u, ?_, hd.stp hs⟩
                    have : p * f.size + q < cells.length := (List.getElem?_eq_some_iff.1 hu).1
                    rw [List.getElem?_append_left this]; exact hu
                  · rename_i hge
                    rw [List.getElem?_map] at hx
                    cases hy : ys[p - xs.length]? with
                    | none => simp [hy] at hx
                    | some y =>
                    simp [hy] at hx
                    subst hx
                    obtain ⟨u, hu, hd⟩ := hsrc.2.2.1 (p - xs.length) q y s' hy hs'
                    refine ⟨u, ?_, .d _ _ (hd.stp hs)⟩
                    have hge : xs.length ≤ p := by omega
                    have hmul : p * f.size = xs.length * f.size + (p - xs.length) * f.size := by rw [← Nat.add_mul]; congr 1; omega
                    rw [List.getElem?_append_right (by rw [hl, hmul]; omega), hl, hmul, show xs.length * f.size + (p - xs.length) * f.size + q - xs.length * f.size = (p - xs.length) * f.size + q by omega, h2]
                    exact hu)
            exact ⟨upd ρ κ v', hgrow.1, hgrow.2, .own _ _ upd_same q7, fun k' hk' => by
              rcases hk' with hk' | hk'
              · exact upd_ne hk'
              · simp [appK] at hk'⟩
          · exact h.elim
        · rename_i α enc xs
          obtain ⟨ys, hra, h⟩ := h
          obtain ⟨⟨e0, e1, e2, e3, e5, e4⟩, h⟩ := h
          refine ⟨_, _, h, fun o ho Keep M ρ a w hlm hm hκ hκM hgs => ?_⟩
          replace hκ := hκ rfl; replace hκM := hκM rfl
          have hgs := gs_args hb hgs
          obtain ⟨v, vs', hvs, g, gr⟩ := hgs.cons_inv
          obtain ⟨vx, vs'', hvs', gx, gn⟩ := gr.cons_inv
          subst hvs'
          have hn := gn.nil_inv
          subst hn
          obtain ⟨news, hsrc⟩ := readAs_src hra hlm hm gx e3 e4
          obtain ⟨cs, hr⟩ := run_builtin (P := P) (w := w) ho hb hvs
          obtain ⟨ad, hv, hd⟩ := g.full_inv
          obtain ⟨olds, hold⟩ := src_of_d hd e3 e5
          rw [hv] at hr hold
          have hb' : (xs.length + ys.length) * f.bytes ≤ 140737488355328 := by rw [h3]; exact Int.ofNat_le.1 (by rw [Int.natCast_mul, Int.natCast_add]; exact e1)
          obtain ⟨v', w', hrun, hown, q1, q2, q3, q4, q5, q6, q7⟩ := append_full (ty := o.type) hk h1 h4 hzs ad (h2 ▸ hold) (h2 ▸ hsrc) e0 (by unfold maxLen; omega) hb'
          refine Does.value (v := v') (w' := w') (by rw [hr, htys]; simp only [builtin, Sem.run_bind, hrun, Result.andThen_ok, Sem.run_pure]) ?_
          refine After.push (u := v') (hm.grow (fun _ h => h) hm.keys hκ hκM v' _ w' q1 q2 q3 q4 (fun b hb _ => q5 b hb) (fun k m v b g1 g2 g3 => q5 b (hm.old b ⟨k, m, v, g1, g2, g3⟩).1) ?_ ?_) (.own _ _ upd_same q7)
          · intro b hb
            obtain ⟨q6, q8⟩ := q6
            rw [hb] at q6; cases q6
            exact ⟨.inr (Nat.le_refl _), q8, fun k m v1 g1 g2 g3 => by have := (hm.old _ ⟨k, m, v1, g1, g2, g3⟩).1; omega⟩
          · intro hs
            refine ⟨v', olds ++ news, upd_same, by rw [← h2]; simpa using hown, by simp; omega, fun u hu => ?_, fun x hx => ?_, fun p q y s' hy hs' => ?_⟩
            · rcases List.mem_append.1 hu with hu | hu
              · exact hold.2.1 u hu
              · exact hsrc.2.1 u hu
            · rcases List.mem_append.1 hx with hx | hx
              · exact e5 x hx
              · exact e4 x hx
            · have hl := hold.1
              rw [List.getElem?_append] at hy
              split at hy
              · obtain ⟨u, hu, hd⟩ := hold.2.2.1 p q y s' hy hs'
                refine ⟨u, ?_, hd.stp hs⟩
                have : p * j.sz + q < olds.length := (List.getElem?_eq_some_iff.1 hu).1
                rw [List.getElem?_append_left this]; exact hu
              · rename_i hge
                obtain ⟨u, hu, hd⟩ := hsrc.2.2.1 (p - xs.length) q y s' hy hs'
                refine ⟨u, ?_, hd.stp hs⟩
                have hge : xs.length ≤ p := by omega
                have hmul : p * j.sz = xs.length * j.sz + (p - xs.length) * j.sz := by rw [← Nat.add_mul]; congr 1; omega
                rw [List.getElem?_append_right (by rw [hl, hmul]; omega), hl, hmul, show xs.length * j.sz + (p - xs.length) * j.sz + q - xs.length * j.sz = (p - xs.length) * j.sz + q by omega]
                exact hu
        · rcases h with h | h | h
          · obtain ⟨α, enc, ys, hra, h⟩ := h
            obtain ⟨⟨e0, e1, e2, e3, e4⟩, h⟩ := h
            refine ⟨_, _, h, fun o ho Keep M ρ a w hlm hm hκ hκM hgs => ?_⟩
            replace hκ := hκ rfl; replace hκM := hκM rfl
            have hgs := gs_args hb hgs
            obtain ⟨v, vs', hvs, g, gr⟩ := hgs.cons_inv
            obtain ⟨vx, vs'', hvs', gx, gn⟩ := gr.cons_inv
            subst hvs'
            have hn := gn.nil_inv
            subst hn
            obtain ⟨news, hsrc⟩ := readAs_src hra hlm hm gx e3 e4
            obtain ⟨cs, hr⟩ := run_builtin (P := P) (w := w) ho hb hvs
            obtain ⟨ad, hv⟩ := g.nils_inv
            rw [hv] at hr
            have hb' : ys.length * f.bytes ≤ 140737488355328 := by rw [h3]; omega
            obtain ⟨v', w', hrun, hown, q1, q2, q3, q4, q5, q6, q7⟩ := append_nils (ty := o.type) hk h1 h4 hzs ad (h2 ▸ hsrc) e0 (by unfold maxLen; omega) hb'
            refine Does.value (v := v') (w' := w') (by rw [hr, htys]; simp only [builtin, Sem.run_bind, hrun, Result.andThen_ok, Sem.run_pure]) ?_
            refine After.push (u := v') (hm.grow (fun _ h => h) hm.keys hκ hκM v' _ w' q1 q2 q3 q4 (fun b hb _ => q5 b hb) (fun k m v b g1 g2 g3 => q5 b (hm.old b ⟨k, m, v, g1, g2, g3⟩).1) ?_ ?_) (.own _ _ upd_same q7)
            · intro b hb
              obtain ⟨q6, q8⟩ := q6
              rw [hb] at q6; cases q6
              exact ⟨.inr (Nat.le_refl _), q8, fun k m v1 g1 g2 g3 => by have := (hm.old _ ⟨k, m, v1, g1, g2, g3⟩).1; omega⟩
            · intro hs
              refine ⟨v', news, upd_same, by rw [← h2]; exact hown, e2, hsrc.2.1, e4, fun p q y s' hy hs' => ?_⟩
              obtain ⟨u, hu, hd⟩ := hsrc.2.2.1 p q y s' hy hs'
              exact ⟨u, hu, hd.stp hs⟩
          · obtain ⟨α, enc, hra, e3, h⟩ := h
            refine ⟨_, _, h, fun o ho Keep M ρ a w hlm hm _ _ hgs => ?_⟩
            have hgs := gs_args hb hgs
            obtain ⟨v, vs', hvs, g, gr⟩ := hgs.cons_inv
            obtain ⟨vx, vs'', hvs', gx, gn⟩ := gr.cons_inv
            subst hvs'
            have hn := gn.nil_inv
            subst hn
            obtain ⟨news, hl, _, _, hx⟩ := readAs_src hra hlm hm gx e3 (fun x hx => by cases hx)
            obtain ⟨cs, hr⟩ := run_builtin (P := P) (w := w) ho hb hvs
            obtain ⟨ad, hv⟩ := g.nils_inv
            rw [hv] at hr
            have hrun : (Builtin.append_ #[t, t] o.type #[.slice ad 0 0, vx]).run P w = .ok (.slice ad 0 0) w := by
              rcases hx with ⟨rfl, _⟩ | ⟨a', c', rfl, _⟩
              · cases ad <;> simp [Builtin.append_, run_underlying hk, sizeOf, typeInfo, h1, Builtin.lenOf, Builtin.firstCells, storeCells]
              · cases ad <;> simp [Builtin.append_, run_underlying hk, sizeOf, typeInfo, h1, Builtin.lenOf, Builtin.firstCells, storeCells, loadCells, loadCellsFrom]
            exact Does.value (v := .slice ad 0 0) (w' := w) (by rw [hr, htys]; simp only [builtin, Sem.run_bind, hrun, Result.andThen_ok, Sem.run_pure]) (After.same hm (.d _ _ (.nils ad)))
          · exact h.elim
        · exact h.elim
      · exact h.elim
    · exact h.elim
  · exact h.elim

end Go.Gs
